import Derived.Test.YtmhamgllanihoaaSsb
namespace Go.Abs.M
open Go Go.Abs Go.Proofs
set_option maxRecDepth 20000
set_option linter.unusedSimpArgs false
set_option linter.unusedVariables false
structure Bd where
  var : ByteArray
  ev : Ev
def encBd (b : Bd) : List V := [.c (.string b.var), .c (.int .i64 b.ev.src), .c (.int .i64 b.ev.seq), .c (.int .i64 b.ev.time), .c (.string b.ev.type), .sl (b.ev.attrs.map encAttr)]
def named (n : Nat) (b : Bd) : Bool := isName b.var || decide (b.var.size = 0 ∧ n = 1)
def partFrom (n : Nat) : Option ByteArray → List (Int × Int) → List Bd → Int
  | _, _, [] => 0
  | p, sn, b :: l => if named n b = false ∨ p.any (leS b.var ·) = true ∨ (b.ev.src, b.ev.seq) ∈ sn then 100 else if evErr b.ev ≠ 0 then evErr b.ev else partFrom n (some b.var) (sn ++ [(b.ev.src, b.ev.seq)]) l
def partErr (l : List Bd) : Int := if 12 < l.length then 100 else partFrom l.length none [] l
structure okB (b : Bd) : Prop where
  var : b.var.size < 4611686018427387904
  ev : okE b.ev
def okP (l : List Bd) : Prop := ∀ b ∈ l, okB b
def ent (p : Int × Int) : V := .tup [.c (.agg ⟨[.int .i64 p.1, .int .i64 p.2]⟩), .c (.bool true)]
theorem entOk_seen (l : List (Int × Int)) : entOk (fitsK [.int .i64, .int .i64]) (l.map ent) = true := by
  induction l with
  | nil => rfl
  | cons p l ih => simp only [List.map_cons, ent, entOk, ih]; rfl
theorem entV_seen (l : List (Int × Int)) (a b : Int) (i : Nat) :
    ((a, b) ∉ l ∧ entV (l.map ent) (.agg ⟨[.int .i64 a, .int .i64 b]⟩) i = none) ∨ ((a, b) ∈ l ∧ ∃ j, entV (l.map ent) (.agg ⟨[.int .i64 a, .int .i64 b]⟩) i = some (j, .c (.bool true))) := by
  induction l generalizing i with
  | nil => exact .inl ⟨by simp, rfl⟩
  | cons p l ih =>
    simp only [List.map_cons, ent, entV, sameK, cellsEq, cellEq, Bool.and_true]
    by_cases h : a = p.1 ∧ b = p.2
    · refine .inr ⟨by simp [Prod.ext_iff, h], i, ?_⟩
      simp [h.1, h.2]
    · have hb : (a == p.1 && b == p.2) = false := by
        cases h1 : (a == p.1 && b == p.2)
        · rfl
        · exact absurd (by simpa using h1) h
      rw [if_neg (by rw [hb]; simp)]
      have hne : (a, b) ≠ p := fun e => h (by rw [← e]; exact ⟨rfl, rfl⟩)
      rcases ih (i + 1) with ⟨h1, h2⟩ | ⟨h1, h2⟩
      · exact .inl ⟨by simp [h1, hne], h2⟩
      · exact .inr ⟨List.mem_cons_of_mem _ h1, h2⟩
theorem check_part (l : List Bd) (hl : okP l) : PCalls Try.prog 21 [.agg [.sl (l.map encBd)]] (fun r => r = .c (.int .i64 (partErr l))) := by
  refine PCalls.intro Try.call21 Try.func21 rfl Try.ntmps21 Try.results21 (by simp) ?_
  refine AW.seq_k fun K1 h1 => ?_
  all_goals refine AW.reg0 ?_
  all_goals iterate 2 (refine S.g rfl rfl fun K' k' => ?_; simp only [zz, reduceIte, Nat.reduceEqDiff, Nat.reduceLT, Nat.reduceLeDiff, Nat.reduceAdd, reduceCtorEq, Nat.reduceMul, ok24, sz24, ag24]; refine k' _ _ ?_; clear k' K')
  all_goals refine S.nil ?_
  all_goals simp only [ze, reduceIte, Nat.reduceEqDiff, Nat.reduceLT, Nat.reduceLeDiff, Nat.reduceAdd, reduceCtorEq, Nat.reduceMul]
  all_goals apply_assumption
  refine AW.seq_k fun K2 h2 => ?_
  all_goals refine AW.reg0 ?_
  all_goals iterate 4 (refine S.g rfl rfl fun K' k' => ?_; simp only [zz, reduceIte, Nat.reduceEqDiff, Nat.reduceLT, Nat.reduceLeDiff, Nat.reduceAdd, reduceCtorEq, Nat.reduceMul, of24_0, ok22, sz22, ag22, sl22, el22, ok42, sz42, ag42]; refine k' _ _ ?_; clear k' K')
  all_goals refine S.nil ?_
  all_goals simp only [ze, reduceIte, Nat.reduceEqDiff, Nat.reduceLT, Nat.reduceLeDiff, Nat.reduceAdd, reduceCtorEq, Nat.reduceMul]
  all_goals apply_assumption
  refine AW.seq_k fun K3 h3 => ?_
  refine AW.seq_k fun K4 h4 => ?_
  all_goals refine AW.reg0 ?_
  all_goals iterate 2 (refine S.g rfl rfl fun K' k' => ?_; simp only [zz, reduceIte, Nat.reduceEqDiff, Nat.reduceAdd]; refine k' _ _ ?_; clear k' K')
  all_goals refine S.nil ?_
  all_goals simp only [ze, reduceIte, Nat.reduceEqDiff, Nat.reduceLT, Nat.reduceLeDiff, Nat.reduceAdd, reduceCtorEq, Nat.reduceMul]
  all_goals apply_assumption
  refine AW.cond (b := decide ((l.length : Int) > 12)) (by simp [ev]) (fun hc => ?_) (fun hc => ?_)
  · refine AW.seq_k fun K5 h5 => ?_
    all_goals refine AW.reg0 ?_
    all_goals (refine S.g rfl rfl fun K' k' => ?_; simp only [zz, reduceIte, Nat.reduceEqDiff, Nat.reduceAdd]; refine k' _ _ ?_; clear k' K')
    all_goals refine S.nil ?_
    all_goals simp only [ze, reduceIte, Nat.reduceEqDiff, Nat.reduceLT, Nat.reduceLeDiff, Nat.reduceAdd, reduceCtorEq, Nat.reduceMul]
    all_goals apply_assumption
    refine AW.ret ?_
    all_goals simp only [zs, reduceIte, Nat.reduceEqDiff, Nat.reduceLT, Nat.reduceLeDiff, Nat.reduceAdd, reduceCtorEq, Nat.reduceMul]
    have : 12 < l.length := by have := of_decide_eq_true hc; omega
    simp [partErr, this]
  · refine AW.skip ?_
    all_goals simp only [zs, reduceIte, Nat.reduceEqDiff, Nat.reduceLT, Nat.reduceLeDiff, Nat.reduceAdd, reduceCtorEq, Nat.reduceMul]
    all_goals apply_assumption
    have hlen : l.length ≤ 12 := by have := of_decide_eq_false hc; omega
    refine AW.seq_k fun K6 h6 => ?_
    all_goals refine AW.reg0 ?_
    all_goals (refine S.g rfl rfl fun K' k' => ?_; simp only [zz, reduceIte, Nat.reduceEqDiff, Nat.reduceLT, Nat.reduceLeDiff, Nat.reduceAdd, reduceCtorEq, Nat.reduceMul]; intro g hg0 <;> (refine k' _ _ ?_; clear k' K'))
    all_goals (refine S.g rfl rfl fun K' k' => ?_; simp only [zz, reduceIte, Nat.reduceEqDiff, Nat.reduceAdd]; refine k' _ _ ?_; clear k' K')
    all_goals refine S.nil ?_
    all_goals simp only [ze, reduceIte, Nat.reduceEqDiff, Nat.reduceLT, Nat.reduceLeDiff, Nat.reduceAdd, reduceCtorEq, Nat.reduceMul]
    all_goals apply_assumption
    refine AW.seq_k fun K7 h7 => ?_
    refine AW.seq_k fun K8 h8 => ?_
    all_goals refine AW.reg0 ?_
    all_goals iterate 4 (refine S.g rfl rfl fun K' k' => ?_; simp only [zz, reduceIte, Nat.reduceEqDiff, Nat.reduceLT, Nat.reduceLeDiff, Nat.reduceAdd, reduceCtorEq, Nat.reduceMul, of24_0, ok22, sz22, ag22, sl22, el22, ok42, sz42, ag42]; refine k' _ _ ?_; clear k' K')
    all_goals refine S.nil ?_
    all_goals simp only [ze, reduceIte, Nat.reduceEqDiff, Nat.reduceLT, Nat.reduceLeDiff, Nat.reduceAdd, reduceCtorEq, Nat.reduceMul]
    all_goals apply_assumption
    refine AW.block ?_   -- 0
    refine AW.loop (fun m s σ => ∃ i sn, m + i = l.length ∧ σ = Hp.empty.setObj g (some [.tup (sn.map ent)]) ∧ s.t 1 = .lp 1 0 ∧ s.l 1 = some [.sl (l.map encBd)] ∧ s.t 3 = .c (.int .i64 l.length) ∧ s.t 4 = .c (.map (some g)) ∧
      s.t 16 = .sl (l.map encBd) ∧ s.t 17 = .c (.int .i64 l.length) ∧ s.t 18 = .c (.int .i64 (i : Nat)) ∧
      partFrom l.length none [] l = partFrom l.length (if i = 0 then none else (l[i-1]?).map (·.var)) sn (l.drop i)) l.length ?_ ?_
    · refine ⟨0, [], by simp, ?_⟩
      all_goals simp only [zs, reduceIte, Nat.reduceEqDiff, Nat.reduceLT, Nat.reduceLeDiff, Nat.reduceAdd, reduceCtorEq, Nat.reduceMul]
      simp
    rintro m s σ ⟨i, sn, hm, rfl, e1, l1, e3, e4, e16, e17, e18, hp⟩
    refine AW.seq_k fun K9 h9 => ?_
    all_goals refine AW.reg0 ?_
    all_goals (refine S.g rfl rfl fun K' k' => ?_; simp only [zz, reduceIte, Nat.reduceEqDiff, Nat.reduceAdd, e17, e18]; refine k' _ _ ?_; clear k' K')
    all_goals refine S.nil ?_
    all_goals simp only [ze, reduceIte, Nat.reduceEqDiff, Nat.reduceLT, Nat.reduceLeDiff, Nat.reduceAdd, reduceCtorEq, Nat.reduceMul, e17, e18]
    all_goals apply_assumption
    refine AW.seq_k fun K10 h10 => ?_
    refine AW.cond (b := decide (i < l.length)) (by simp [ev]) (fun hc => ?_) (fun hc => ?_)
    · refine AW.skip ?_
      all_goals simp only [zs, reduceIte, Nat.reduceEqDiff, Nat.reduceLT, Nat.reduceLeDiff, Nat.reduceAdd, reduceCtorEq, Nat.reduceMul]
      all_goals apply_assumption
      have hi : i < l.length := by simpa using hc
      have hg := getD_map (f := encBd) hi
      have hd : l.drop i = l[i] :: l.drop (i + 1) := List.drop_eq_getElem_cons hi
      have hmem := hl _ (List.getElem_mem hi)
      generalize ha : l[i] = a at hg hd hmem
      have hn1 := hmem.var
      have hn2 := hmem.ev
      refine AW.seq_k fun K11 h11 => ?_
      refine AW.block ?_   -- 1
      refine AW.seq_k fun K12 h12 => ?_
      all_goals refine AW.reg0 ?_
      all_goals iterate 6 (refine S.g rfl rfl fun K' k' => ?_; simp only [zz, reduceIte, Nat.reduceEqDiff, Nat.reduceLT, Nat.reduceLeDiff, Nat.reduceAdd, reduceCtorEq, Nat.reduceMul, sl22, el22, ok42, sz42, ag42, zt42, e16, e18, hi, hg, encBd, e1]; refine k' _ _ ?_; clear k' K')
      all_goals refine S.nil ?_
      all_goals simp only [ze, reduceIte, Nat.reduceEqDiff, Nat.reduceLT, Nat.reduceLeDiff, Nat.reduceAdd, reduceCtorEq, Nat.reduceMul, e16, e18, hi, hg, encBd, e1]
      all_goals apply_assumption
      refine AW.seq_j (fun s' σ' => σ' = Hp.empty.setObj g (some [.tup (sn.map ent)]) ∧ s'.t 1 = .lp 1 0 ∧ s'.l 1 = some [.sl (l.map encBd)] ∧ s'.t 3 = .c (.int .i64 l.length) ∧ s'.t 4 = .c (.map (some g)) ∧
        s'.t 16 = .sl (l.map encBd) ∧ s'.t 17 = .c (.int .i64 l.length) ∧ s'.t 18 = .c (.int .i64 i) ∧ s'.t 6 = .lp 6 0 ∧ s'.l 6 = some (encBd a) ∧ s'.t 5 = .c (.int .i64 i) ∧ s'.t 7 = .c (.bool (named l.length a))) ?_ ?_
      · skip
        all_goals refine AW.reg0 ?_
        all_goals iterate 2 (refine S.g rfl rfl fun K' k' => ?_; simp only [zz, reduceIte, Nat.reduceEqDiff, Nat.reduceLT, Nat.reduceLeDiff, Nat.reduceAdd, reduceCtorEq, Nat.reduceMul, of42_0, ok9, sz9, ag9, e1, e3, l1, e4, e16, e17, e18]; refine k' _ _ ?_; clear k' K')
        all_goals (refine S.g rfl rfl fun K' k' => ?_; simp only [zz, reduceIte, Nat.reduceEqDiff, Nat.reduceLT, Nat.reduceLeDiff, Nat.reduceAdd, reduceCtorEq, Nat.reduceMul, e1, e3, l1, e4, e16, e17, e18]; refine PCalls.eqto (name_spec _ (by assumption)) ?_; refine S.bool fun b a25 => ?_; cases b <;> (try (exfalso; first | exact Bool.noConfusion a25 | (have h := of_decide_eq_true a25; omega) | (have h := of_decide_eq_false a25; omega))) <;> (refine k' _ _ ?_; clear k' K'))
        all_goals (refine S.g rfl rfl fun K' k' => ?_; simp only [zz, reduceIte, Nat.reduceEqDiff, Nat.reduceAdd, e1, e3, l1, e4, e16, e17, e18]; refine k' _ _ ?_; clear k' K')
        all_goals iterate 2 (first | (refine S.y rfl rfl rfl rfl fun K' k' => ?_; simp only [zz, reduceIte, Nat.reduceEqDiff, Nat.reduceLT, Nat.reduceLeDiff, Nat.reduceAdd, reduceCtorEq, Nat.reduceMul, of42_0, ok9, sz9, ag9, e1, e3, l1, e4, e16, e17, e18]; refine k' _ _ ?_; clear k' K') | ((first | refine S.x rfl rfl rfl rfl fun K' k' => ?_ | refine S.u rfl rfl rfl rfl fun K' k' => ?_); simp only [ze, reduceIte, Nat.reduceEqDiff]; refine k' _ _ ?_; clear k' K'))
        all_goals (first | (refine S.y rfl rfl rfl rfl fun K' k' => ?_; simp only [zz, reduceIte, Nat.reduceEqDiff, Nat.reduceLT, Nat.reduceLeDiff, Nat.reduceAdd, reduceCtorEq, Nat.reduceMul, e1, e3, l1, e4, e16, e17, e18]; refine S.bool fun b a29 => ?_; cases b <;> (try (exfalso; first | exact Bool.noConfusion a29 | (have h := of_decide_eq_true a29; omega) | (have h := of_decide_eq_false a29; omega))) <;> (refine k' _ _ ?_; clear k' K')) | ((first | refine S.x rfl rfl rfl rfl fun K' k' => ?_ | refine S.u rfl rfl rfl rfl fun K' k' => ?_); simp only [ze, reduceIte, Nat.reduceEqDiff]; refine k' _ _ ?_; clear k' K'))
        all_goals iterate 4 (first | (refine S.y rfl rfl rfl rfl fun K' k' => ?_; simp only [zz, reduceIte, Nat.reduceEqDiff, Nat.reduceAdd, e1, e3, l1, e4, e16, e17, e18]; refine k' _ _ ?_; clear k' K') | ((first | refine S.x rfl rfl rfl rfl fun K' k' => ?_ | refine S.u rfl rfl rfl rfl fun K' k' => ?_); simp only [ze, reduceIte, Nat.reduceEqDiff]; refine k' _ _ ?_; clear k' K'))
        all_goals iterate 2 (refine S.g rfl rfl fun K' k' => ?_; simp only [zz, reduceIte, Nat.reduceEqDiff, Nat.reduceAdd, e1, e3, l1, e4, e16, e17, e18]; refine k' _ _ ?_; clear k' K')
        all_goals refine S.nil ?_
        all_goals simp only [ze, reduceIte, Nat.reduceEqDiff, Nat.reduceLT, Nat.reduceLeDiff, Nat.reduceAdd, reduceCtorEq, Nat.reduceMul, e1, e3, l1, e4, e16, e17, e18]
        all_goals refine ⟨rfl, ?_⟩
        clear hp hd hmem hl
        all_goals (try simp only [beq_eq_false_iff_ne, decide_eq_true_eq, decide_eq_false_iff_not, beq_iff_eq, ne_eq, Bool.not_eq_true', Bool.not_eq_false', bne_iff_ne, bne_eq_false_iff_eq] at *)
        all_goals (try simp only [V.c.injEq, Value.bool.injEq, Value.int.injEq, true_and, named, a25])
        all_goals first | done | rfl | omega | ((rw [Bool.eq_iff_iff]; simp only [beq_eq_false_iff_ne, decide_eq_true_eq, decide_eq_false_iff_not, beq_iff_eq, ne_eq, Bool.not_eq_true', Bool.not_eq_false', bne_iff_ne, bne_eq_false_iff_eq, Bool.false_or, Bool.true_or, Bool.or_false, Bool.or_true, Bool.false_and, Bool.and_false, Bool.true_and, Bool.and_true, Bool.not_true, Bool.not_false, Bool.or_eq_false_iff, Bool.and_eq_false_iff, Bool.or_eq_true, Bool.and_eq_true, Bool.false_eq_true, Bool.true_eq_false, true_iff, iff_true, false_iff, iff_false]) <;> omega)
        all_goals simp_all
      rintro s1 σ1 ⟨rfl, f1, k1, f3, f4, f16, f17, f18, f6, k6, f5, f7⟩
      rw [encBd] at k6
      have hsn := entV_seen sn a.ev.src a.ev.seq 0
      have key : ∀ (q : Bool), q = decide (named l.length a = false ∨ (if i = 0 then none else (l[i-1]?).map (·.var)).any (leS a.var ·) = true ∨ (a.ev.src, a.ev.seq) ∈ sn) → q = q := fun _ _ => rfl
      refine AW.seq_j (fun s' σ' => σ' = Hp.empty.setObj g (some [.tup (sn.map ent)]) ∧ s'.t 1 = .lp 1 0 ∧ s'.l 1 = some [.sl (l.map encBd)] ∧ s'.t 3 = .c (.int .i64 l.length) ∧ s'.t 4 = .c (.map (some g)) ∧
        s'.t 16 = .sl (l.map encBd) ∧ s'.t 17 = .c (.int .i64 l.length) ∧ s'.t 18 = .c (.int .i64 i) ∧ s'.t 6 = .lp 6 0 ∧ s'.l 6 = some (encBd a) ∧
        named l.length a = true ∧ (if i = 0 then none else (l[i-1]?).map (·.var)).any (leS a.var ·) = false ∧ (a.ev.src, a.ev.seq) ∉ sn) ?_ ?_
      · refine AW.seq_j (fun s' σ' => σ' = Hp.empty.setObj g (some [.tup (sn.map ent)]) ∧ s'.t 1 = .lp 1 0 ∧ s'.l 1 = some [.sl (l.map encBd)] ∧ s'.t 3 = .c (.int .i64 l.length) ∧ s'.t 4 = .c (.map (some g)) ∧
          s'.t 16 = .sl (l.map encBd) ∧ s'.t 17 = .c (.int .i64 l.length) ∧ s'.t 18 = .c (.int .i64 i) ∧ s'.t 6 = .lp 6 0 ∧ s'.l 6 = some (encBd a) ∧
          s'.t 59 = .c (.bool (decide (named l.length a = false ∨ (if i = 0 then none else (l[i-1]?).map (·.var)).any (leS a.var ·) = true ∨ (a.ev.src, a.ev.seq) ∈ sn)))) ?_ ?_
        · clear hp hd hl hmem key
          generalize hnm : named l.length a = nm at f7 ⊢
          rcases hsn with ⟨hs1, hs2⟩ | ⟨hs1, jj, hs2⟩
          · by_cases hi0 : i = 0
            · have hpb : (if i = 0 then none else (l[i-1]?).map (·.var)).any (leS a.var ·) = false := by simp [hi0]
              rw [hpb]
              cases nm
              all_goals refine AW.draw (T := { sd := fun d => d == 1 || d == 6 }) (fun _ _ h => by cases h) mixedO [(0, 0), (1, 0), (2, 0), (3, 0), (4, 0), (5, 0), (6, 0), (8, 0), (10, 0), (11, 0), (7, 1), (9, 1), (12, 0), (13, 0), (14, 1), (15, 0), (16, 0), (17, 0), (18, 0), (19, 0), (20, 0), (21, 0), (22, 1), (23, 2), (24, 0)] rfl (by kernel_rfl) (by kernel_rfl) ?_
              all_goals iterate 3 (refine D.g rfl trivial rfl rfl fun K' k' => ?_; simp only [zz, reduceIte, Nat.reduceEqDiff, Nat.reduceAdd, f1, k1, f3, f4, f16, f17, f18, f6, k6, f5, f7, hs2]; refine k' _ _ ?_; clear k' K')
              all_goals (first | (refine D.y rfl trivial rfl rfl rfl rfl fun K' k' => ?_; simp only [zz, reduceIte, Nat.reduceEqDiff, Nat.reduceAdd, f1, k1, f3, f4, f16, f17, f18, f6, k6, f5, f7, hs2]; refine k' _ _ ?_; clear k' K') | ((first | refine D.x rfl (fun h => by cases h) rfl rfl rfl rfl fun K' k' => ?_ | refine D.u rfl (fun h => by cases h) rfl rfl rfl rfl fun K' k' => ?_); simp only [ze, reduceIte, Nat.reduceEqDiff]; refine k' _ _ ?_; clear k' K'))
              all_goals (first | (refine D.y rfl trivial rfl rfl rfl rfl fun K' k' => ?_; simp only [zz, reduceIte, Nat.reduceEqDiff, Nat.reduceLT, Nat.reduceLeDiff, Nat.reduceAdd, reduceCtorEq, Nat.reduceMul, f1, k1, f3, f4, f16, f17, f18, f6, k6, f5, f7, hs2]; refine S.bool fun b a39 => ?_; cases b <;> (try (exfalso; first | exact Bool.noConfusion a39 | (have h := of_decide_eq_true a39; omega) | (have h := of_decide_eq_false a39; omega))) <;> (refine k' _ _ ?_; clear k' K')) | ((first | refine D.x rfl (fun h => by cases h) rfl rfl rfl rfl fun K' k' => ?_ | refine D.u rfl (fun h => by cases h) rfl rfl rfl rfl fun K' k' => ?_); simp only [ze, reduceIte, Nat.reduceEqDiff]; refine k' _ _ ?_; clear k' K'))
              all_goals iterate 5 (first | (refine D.y rfl trivial rfl rfl rfl rfl fun K' k' => ?_; simp only [zz, reduceIte, Nat.reduceEqDiff, Nat.reduceLT, Nat.reduceLeDiff, Nat.reduceAdd, reduceCtorEq, Nat.reduceMul, of42_0, of24_0, f1, k1, f3, f4, f16, f17, f18, f6, k6, f5, f7, hs2]; refine k' _ _ ?_; clear k' K') | ((first | refine D.x rfl (fun h => by cases h) rfl rfl rfl rfl fun K' k' => ?_ | refine D.u rfl (fun h => by cases h) rfl rfl rfl rfl fun K' k' => ?_); simp only [ze, reduceIte, Nat.reduceEqDiff]; refine k' _ _ ?_; clear k' K'))
              all_goals iterate 2 (first | (refine D.y rfl (by first | rfl | (simp only [stC, ze, reduceIte, Nat.reduceEqDiff, f1, k1, f3, f4, f16, f17, f18, f6, k6, f5, f7, hs2]; done) | (simp only [stC, ze, reduceIte, Nat.reduceEqDiff, f1, k1, f3, f4, f16, f17, f18, f6, k6, f5, f7, hs2]; rfl)) rfl rfl rfl rfl fun K' k' => ?_; simp only [zz, reduceIte, Nat.reduceEqDiff, Nat.reduceLT, Nat.reduceLeDiff, Nat.reduceAdd, reduceCtorEq, Nat.reduceMul, ok9, sz9, ag9, ok22, sz22, ag22, f1, k1, f3, f4, f16, f17, f18, f6, k6, f5, f7, hs2]; refine k' _ _ ?_; clear k' K') | ((first | refine D.x rfl (fun _ => rfl) rfl rfl rfl rfl fun K' k' => ?_ | refine D.u rfl (fun _ => rfl) rfl rfl rfl rfl fun K' k' => ?_); simp only [ze, reduceIte, Nat.reduceEqDiff]; refine k' _ _ ?_; clear k' K'))
              all_goals iterate 2 (first | (refine D.y rfl trivial rfl rfl rfl rfl fun K' k' => ?_; simp only [zz, reduceIte, Nat.reduceEqDiff, Nat.reduceLT, Nat.reduceLeDiff, Nat.reduceAdd, reduceCtorEq, Nat.reduceMul, sl22, el22, ok42, sz42, ag42, of42_0, f1, k1, f3, f4, f16, f17, f18, f6, k6, f5, f7, hs2]; refine k' _ _ ?_; clear k' K') | ((first | refine D.x rfl (fun h => by cases h) rfl rfl rfl rfl fun K' k' => ?_ | refine D.u rfl (fun h => by cases h) rfl rfl rfl rfl fun K' k' => ?_); simp only [ze, reduceIte, Nat.reduceEqDiff]; refine k' _ _ ?_; clear k' K'))
              all_goals (first | (refine D.y rfl (by first | rfl | (simp only [stC, ze, reduceIte, Nat.reduceEqDiff, f1, k1, f3, f4, f16, f17, f18, f6, k6, f5, f7, hs2]; done) | (simp only [stC, ze, reduceIte, Nat.reduceEqDiff, f1, k1, f3, f4, f16, f17, f18, f6, k6, f5, f7, hs2]; rfl)) rfl rfl rfl rfl fun K' k' => ?_; simp only [zz, reduceIte, Nat.reduceEqDiff, Nat.reduceLT, Nat.reduceLeDiff, Nat.reduceAdd, reduceCtorEq, Nat.reduceMul, ok9, sz9, ag9, f1, k1, f3, f4, f16, f17, f18, f6, k6, f5, f7, hs2]; refine k' _ _ ?_; clear k' K') | ((first | refine D.x rfl (fun _ => rfl) rfl rfl rfl rfl fun K' k' => ?_ | refine D.u rfl (fun _ => rfl) rfl rfl rfl rfl fun K' k' => ?_); simp only [ze, reduceIte, Nat.reduceEqDiff]; refine k' _ _ ?_; clear k' K'))
              all_goals (first | (refine D.y rfl trivial rfl rfl rfl rfl fun K' k' => ?_; simp only [zz, reduceIte, Nat.reduceEqDiff, Nat.reduceLT, Nat.reduceLeDiff, Nat.reduceAdd, reduceCtorEq, Nat.reduceMul, f1, k1, f3, f4, f16, f17, f18, f6, k6, f5, f7, hs2]; refine S.bool fun b a50 => ?_; cases b <;> (try (exfalso; first | exact Bool.noConfusion a50 | (have h := of_decide_eq_true a50; omega) | (have h := of_decide_eq_false a50; omega))) <;> (refine k' _ _ ?_; clear k' K')) | ((first | refine D.x rfl (fun h => by cases h) rfl rfl rfl rfl fun K' k' => ?_ | refine D.u rfl (fun h => by cases h) rfl rfl rfl rfl fun K' k' => ?_); simp only [ze, reduceIte, Nat.reduceEqDiff]; refine k' _ _ ?_; clear k' K'))
              all_goals (first | (refine D.y rfl trivial rfl rfl rfl rfl fun K' k' => ?_; simp only [zz, reduceIte, Nat.reduceEqDiff, Nat.reduceAdd, f1, k1, f3, f4, f16, f17, f18, f6, k6, f5, f7, hs2]; refine k' _ _ ?_; clear k' K') | ((first | refine D.x rfl (fun h => by cases h) rfl rfl rfl rfl fun K' k' => ?_ | refine D.u rfl (fun h => by cases h) rfl rfl rfl rfl fun K' k' => ?_); simp only [ze, reduceIte, Nat.reduceEqDiff]; refine k' _ _ ?_; clear k' K'))
              all_goals iterate 2 (refine D.g rfl trivial rfl rfl fun K' k' => ?_; simp only [zz, reduceIte, Nat.reduceEqDiff, Nat.reduceAdd, f1, k1, f3, f4, f16, f17, f18, f6, k6, f5, f7, hs2]; refine k' _ _ ?_; clear k' K')
              all_goals iterate 3 (first | (refine D.y rfl trivial rfl rfl rfl rfl fun K' k' => ?_; simp only [zz, reduceIte, Nat.reduceEqDiff, Nat.reduceLT, Nat.reduceLeDiff, Nat.reduceAdd, reduceCtorEq, Nat.reduceMul, of42_1, of36_0, f1, k1, f3, f4, f16, f17, f18, f6, k6, f5, f7, hs2]; refine k' _ _ ?_; clear k' K') | ((first | refine D.x rfl (fun h => by cases h) rfl rfl rfl rfl fun K' k' => ?_ | refine D.u rfl (fun h => by cases h) rfl rfl rfl rfl fun K' k' => ?_); simp only [ze, reduceIte, Nat.reduceEqDiff]; refine k' _ _ ?_; clear k' K'))
              all_goals (first | (refine D.y rfl (by first | rfl | (simp only [stC, ze, reduceIte, Nat.reduceEqDiff, f1, k1, f3, f4, f16, f17, f18, f6, k6, f5, f7, hs2]; done) | (simp only [stC, ze, reduceIte, Nat.reduceEqDiff, f1, k1, f3, f4, f16, f17, f18, f6, k6, f5, f7, hs2]; rfl)) rfl rfl rfl rfl fun K' k' => ?_; simp only [zz, reduceIte, Nat.reduceEqDiff, Nat.reduceLT, Nat.reduceLeDiff, Nat.reduceAdd, reduceCtorEq, Nat.reduceMul, ok33, sz33, ag33, f1, k1, f3, f4, f16, f17, f18, f6, k6, f5, f7, hs2]; refine k' _ _ ?_; clear k' K') | ((first | refine D.x rfl (fun _ => rfl) rfl rfl rfl rfl fun K' k' => ?_ | refine D.u rfl (fun _ => rfl) rfl rfl rfl rfl fun K' k' => ?_); simp only [ze, reduceIte, Nat.reduceEqDiff]; refine k' _ _ ?_; clear k' K'))
              all_goals (first | (refine D.y rfl trivial rfl rfl rfl rfl fun K' k' => ?_; simp only [zn, reduceIte, Nat.reduceEqDiff, Nat.reduceLT, Nat.reduceLeDiff, Nat.reduceAdd, reduceCtorEq, Nat.reduceMul, f1, k1, f3, f4, f16, f17, f18, f6, k6, f5, f7, hs2]; refine ⟨_, _, _, Try.underlying106, key33, rfl, entOk_seen _, ?_⟩; (try simp only [zt4, ofC, Option.some.injEq, exists_eq_left', zz, reduceIte, Nat.reduceEqDiff, Nat.reduceLT, Nat.reduceLeDiff, Nat.reduceAdd, reduceCtorEq, Nat.reduceMul, f1, k1, f3, f4, f16, f17, f18, f6, k6, f5, f7, hs2]) <;> (refine k' _ _ ?_; clear k' K')) | ((first | refine D.x rfl (fun h => by cases h) rfl rfl rfl rfl fun K' k' => ?_ | refine D.u rfl (fun h => by cases h) rfl rfl rfl rfl fun K' k' => ?_); simp only [ze, reduceIte, Nat.reduceEqDiff]; refine k' _ _ ?_; clear k' K'))
              all_goals (refine D.g rfl trivial rfl rfl fun K' k' => ?_; simp only [zz, reduceIte, Nat.reduceEqDiff, Nat.reduceAdd, f1, k1, f3, f4, f16, f17, f18, f6, k6, f5, f7, hs2]; refine k' _ _ ?_; clear k' K')
              all_goals refine D.nil ?_
              all_goals simp only [ze, reduceIte, Nat.reduceEqDiff, Nat.reduceLT, Nat.reduceLeDiff, Nat.reduceAdd, reduceCtorEq, Nat.reduceMul, f1, k1, f3, f4, f16, f17, f18, f6, k6, f5, f7, hs2]
              all_goals (first | refine ⟨rfl, ?_⟩ | skip)
              all_goals simp [hs1]
            · have hi1 : i - 1 < l.length := by omega
              have hpb : (if i = 0 then none else (l[i-1]?).map (·.var)).any (leS a.var ·) = leS a.var l[i-1].var := by simp [hi0, hi1]
              rw [hpb]
              have hg1 := getD_map (f := encBd) hi1
              have hw : IntKind.i64.wrap ((i : Int) - 1) = ((i - 1 : Nat) : Int) := by rw [wrap_small _ (by omega) (by omega)]; omega
              cases nm
              all_goals refine AW.draw (T := { sd := fun d => d == 1 || d == 6 }) (fun _ _ h => by cases h) mixedO [(0, 0), (1, 0), (2, 0), (3, 0), (4, 0), (5, 0), (6, 0), (8, 0), (10, 0), (11, 0), (7, 1), (9, 1), (12, 0), (13, 0), (14, 1), (15, 0), (16, 0), (17, 0), (18, 0), (19, 0), (20, 0), (21, 0), (22, 1), (23, 2), (24, 0)] rfl (by kernel_rfl) (by kernel_rfl) ?_
              all_goals iterate 3 (refine D.g rfl trivial rfl rfl fun K' k' => ?_; simp only [zz, reduceIte, Nat.reduceEqDiff, Nat.reduceAdd, f1, k1, f3, f4, f16, f17, f18, f6, k6, f5, f7, hs2, hi1, hg1, encBd, hw]; refine k' _ _ ?_; clear k' K')
              all_goals (first | (refine D.y rfl trivial rfl rfl rfl rfl fun K' k' => ?_; simp only [zz, reduceIte, Nat.reduceEqDiff, Nat.reduceAdd, f1, k1, f3, f4, f16, f17, f18, f6, k6, f5, f7, hs2, hi1, hg1, encBd, hw]; refine k' _ _ ?_; clear k' K') | ((first | refine D.x rfl (fun h => by cases h) rfl rfl rfl rfl fun K' k' => ?_ | refine D.u rfl (fun h => by cases h) rfl rfl rfl rfl fun K' k' => ?_); simp only [ze, reduceIte, Nat.reduceEqDiff]; refine k' _ _ ?_; clear k' K'))
              all_goals (first | (refine D.y rfl trivial rfl rfl rfl rfl fun K' k' => ?_; simp only [zz, reduceIte, Nat.reduceEqDiff, Nat.reduceLT, Nat.reduceLeDiff, Nat.reduceAdd, reduceCtorEq, Nat.reduceMul, f1, k1, f3, f4, f16, f17, f18, f6, k6, f5, f7, hs2, hi1, hg1, encBd, hw]; refine S.bool fun b a39 => ?_; cases b <;> (try (exfalso; first | exact Bool.noConfusion a39 | (have h := of_decide_eq_true a39; omega) | (have h := of_decide_eq_false a39; omega))) <;> (refine k' _ _ ?_; clear k' K')) | ((first | refine D.x rfl (fun h => by cases h) rfl rfl rfl rfl fun K' k' => ?_ | refine D.u rfl (fun h => by cases h) rfl rfl rfl rfl fun K' k' => ?_); simp only [ze, reduceIte, Nat.reduceEqDiff]; refine k' _ _ ?_; clear k' K'))
              all_goals iterate 5 (first | (refine D.y rfl trivial rfl rfl rfl rfl fun K' k' => ?_; simp only [zz, reduceIte, Nat.reduceEqDiff, Nat.reduceLT, Nat.reduceLeDiff, Nat.reduceAdd, reduceCtorEq, Nat.reduceMul, of42_0, of24_0, f1, k1, f3, f4, f16, f17, f18, f6, k6, f5, f7, hs2, hi1, hg1, encBd, hw]; refine k' _ _ ?_; clear k' K') | ((first | refine D.x rfl (fun h => by cases h) rfl rfl rfl rfl fun K' k' => ?_ | refine D.u rfl (fun h => by cases h) rfl rfl rfl rfl fun K' k' => ?_); simp only [ze, reduceIte, Nat.reduceEqDiff]; refine k' _ _ ?_; clear k' K'))
              all_goals iterate 2 (first | (refine D.y rfl (by first | rfl | (simp only [stC, ze, reduceIte, Nat.reduceEqDiff, f1, k1, f3, f4, f16, f17, f18, f6, k6, f5, f7, hs2, hi1, hg1, encBd, hw]; done) | (simp only [stC, ze, reduceIte, Nat.reduceEqDiff, f1, k1, f3, f4, f16, f17, f18, f6, k6, f5, f7, hs2, hi1, hg1, encBd, hw]; rfl)) rfl rfl rfl rfl fun K' k' => ?_; simp only [zz, reduceIte, Nat.reduceEqDiff, Nat.reduceLT, Nat.reduceLeDiff, Nat.reduceAdd, reduceCtorEq, Nat.reduceMul, ok9, sz9, ag9, ok22, sz22, ag22, f1, k1, f3, f4, f16, f17, f18, f6, k6, f5, f7, hs2, hi1, hg1, encBd, hw]; refine k' _ _ ?_; clear k' K') | ((first | refine D.x rfl (fun _ => rfl) rfl rfl rfl rfl fun K' k' => ?_ | refine D.u rfl (fun _ => rfl) rfl rfl rfl rfl fun K' k' => ?_); simp only [ze, reduceIte, Nat.reduceEqDiff]; refine k' _ _ ?_; clear k' K'))
              all_goals iterate 2 (first | (refine D.y rfl trivial rfl rfl rfl rfl fun K' k' => ?_; simp only [zz, reduceIte, Nat.reduceEqDiff, Nat.reduceLT, Nat.reduceLeDiff, Nat.reduceAdd, reduceCtorEq, Nat.reduceMul, sl22, el22, ok42, sz42, ag42, of42_0, f1, k1, f3, f4, f16, f17, f18, f6, k6, f5, f7, hs2, hi1, hg1, encBd, hw]; refine k' _ _ ?_; clear k' K') | ((first | refine D.x rfl (fun h => by cases h) rfl rfl rfl rfl fun K' k' => ?_ | refine D.u rfl (fun h => by cases h) rfl rfl rfl rfl fun K' k' => ?_); simp only [ze, reduceIte, Nat.reduceEqDiff]; refine k' _ _ ?_; clear k' K'))
              all_goals (first | (refine D.y rfl (by first | rfl | (simp only [stC, ze, reduceIte, Nat.reduceEqDiff, f1, k1, f3, f4, f16, f17, f18, f6, k6, f5, f7, hs2, hi1, hg1, encBd, hw]; done) | (simp only [stC, ze, reduceIte, Nat.reduceEqDiff, f1, k1, f3, f4, f16, f17, f18, f6, k6, f5, f7, hs2, hi1, hg1, encBd, hw]; rfl)) rfl rfl rfl rfl fun K' k' => ?_; simp only [zz, reduceIte, Nat.reduceEqDiff, Nat.reduceLT, Nat.reduceLeDiff, Nat.reduceAdd, reduceCtorEq, Nat.reduceMul, ok9, sz9, ag9, f1, k1, f3, f4, f16, f17, f18, f6, k6, f5, f7, hs2, hi1, hg1, encBd, hw]; refine k' _ _ ?_; clear k' K') | ((first | refine D.x rfl (fun _ => rfl) rfl rfl rfl rfl fun K' k' => ?_ | refine D.u rfl (fun _ => rfl) rfl rfl rfl rfl fun K' k' => ?_); simp only [ze, reduceIte, Nat.reduceEqDiff]; refine k' _ _ ?_; clear k' K'))
              all_goals (first | (refine D.y rfl trivial rfl rfl rfl rfl fun K' k' => ?_; simp only [zz, reduceIte, Nat.reduceEqDiff, Nat.reduceLT, Nat.reduceLeDiff, Nat.reduceAdd, reduceCtorEq, Nat.reduceMul, f1, k1, f3, f4, f16, f17, f18, f6, k6, f5, f7, hs2, hi1, hg1, encBd, hw]; refine S.bool fun b a50 => ?_; cases b <;> (try (exfalso; first | exact Bool.noConfusion a50 | (have h := of_decide_eq_true a50; omega) | (have h := of_decide_eq_false a50; omega))) <;> (refine k' _ _ ?_; clear k' K')) | ((first | refine D.x rfl (fun h => by cases h) rfl rfl rfl rfl fun K' k' => ?_ | refine D.u rfl (fun h => by cases h) rfl rfl rfl rfl fun K' k' => ?_); simp only [ze, reduceIte, Nat.reduceEqDiff]; refine k' _ _ ?_; clear k' K'))
              all_goals (first | (refine D.y rfl trivial rfl rfl rfl rfl fun K' k' => ?_; simp only [zz, reduceIte, Nat.reduceEqDiff, Nat.reduceAdd, f1, k1, f3, f4, f16, f17, f18, f6, k6, f5, f7, hs2, hi1, hg1, encBd, hw]; refine k' _ _ ?_; clear k' K') | ((first | refine D.x rfl (fun h => by cases h) rfl rfl rfl rfl fun K' k' => ?_ | refine D.u rfl (fun h => by cases h) rfl rfl rfl rfl fun K' k' => ?_); simp only [ze, reduceIte, Nat.reduceEqDiff]; refine k' _ _ ?_; clear k' K'))
              all_goals iterate 2 (refine D.g rfl trivial rfl rfl fun K' k' => ?_; simp only [zz, reduceIte, Nat.reduceEqDiff, Nat.reduceAdd, f1, k1, f3, f4, f16, f17, f18, f6, k6, f5, f7, hs2, hi1, hg1, encBd, hw]; refine k' _ _ ?_; clear k' K')
              all_goals iterate 3 (first | (refine D.y rfl trivial rfl rfl rfl rfl fun K' k' => ?_; simp only [zz, reduceIte, Nat.reduceEqDiff, Nat.reduceLT, Nat.reduceLeDiff, Nat.reduceAdd, reduceCtorEq, Nat.reduceMul, of42_1, of36_0, f1, k1, f3, f4, f16, f17, f18, f6, k6, f5, f7, hs2, hi1, hg1, encBd, hw]; refine k' _ _ ?_; clear k' K') | ((first | refine D.x rfl (fun h => by cases h) rfl rfl rfl rfl fun K' k' => ?_ | refine D.u rfl (fun h => by cases h) rfl rfl rfl rfl fun K' k' => ?_); simp only [ze, reduceIte, Nat.reduceEqDiff]; refine k' _ _ ?_; clear k' K'))
              all_goals (first | (refine D.y rfl (by first | rfl | (simp only [stC, ze, reduceIte, Nat.reduceEqDiff, f1, k1, f3, f4, f16, f17, f18, f6, k6, f5, f7, hs2, hi1, hg1, encBd, hw]; done) | (simp only [stC, ze, reduceIte, Nat.reduceEqDiff, f1, k1, f3, f4, f16, f17, f18, f6, k6, f5, f7, hs2, hi1, hg1, encBd, hw]; rfl)) rfl rfl rfl rfl fun K' k' => ?_; simp only [zz, reduceIte, Nat.reduceEqDiff, Nat.reduceLT, Nat.reduceLeDiff, Nat.reduceAdd, reduceCtorEq, Nat.reduceMul, ok33, sz33, ag33, f1, k1, f3, f4, f16, f17, f18, f6, k6, f5, f7, hs2, hi1, hg1, encBd, hw]; refine k' _ _ ?_; clear k' K') | ((first | refine D.x rfl (fun _ => rfl) rfl rfl rfl rfl fun K' k' => ?_ | refine D.u rfl (fun _ => rfl) rfl rfl rfl rfl fun K' k' => ?_); simp only [ze, reduceIte, Nat.reduceEqDiff]; refine k' _ _ ?_; clear k' K'))
              all_goals (first | (refine D.y rfl trivial rfl rfl rfl rfl fun K' k' => ?_; simp only [zn, reduceIte, Nat.reduceEqDiff, Nat.reduceLT, Nat.reduceLeDiff, Nat.reduceAdd, reduceCtorEq, Nat.reduceMul, f1, k1, f3, f4, f16, f17, f18, f6, k6, f5, f7, hs2, hi1, hg1, encBd, hw]; refine ⟨_, _, _, Try.underlying106, key33, rfl, entOk_seen _, ?_⟩; (try simp only [zt4, ofC, Option.some.injEq, exists_eq_left', zz, reduceIte, Nat.reduceEqDiff, Nat.reduceLT, Nat.reduceLeDiff, Nat.reduceAdd, reduceCtorEq, Nat.reduceMul, f1, k1, f3, f4, f16, f17, f18, f6, k6, f5, f7, hs2, hi1, hg1, encBd, hw]) <;> (refine k' _ _ ?_; clear k' K')) | ((first | refine D.x rfl (fun h => by cases h) rfl rfl rfl rfl fun K' k' => ?_ | refine D.u rfl (fun h => by cases h) rfl rfl rfl rfl fun K' k' => ?_); simp only [ze, reduceIte, Nat.reduceEqDiff]; refine k' _ _ ?_; clear k' K'))
              all_goals (refine D.g rfl trivial rfl rfl fun K' k' => ?_; simp only [zz, reduceIte, Nat.reduceEqDiff, Nat.reduceAdd, f1, k1, f3, f4, f16, f17, f18, f6, k6, f5, f7, hs2, hi1, hg1, encBd, hw]; refine k' _ _ ?_; clear k' K')
              all_goals refine D.nil ?_
              all_goals simp only [ze, reduceIte, Nat.reduceEqDiff, Nat.reduceLT, Nat.reduceLeDiff, Nat.reduceAdd, reduceCtorEq, Nat.reduceMul, f1, k1, f3, f4, f16, f17, f18, f6, k6, f5, f7, hs2, hi1, hg1, encBd, hw]
              all_goals (first | refine ⟨rfl, ?_⟩ | skip)
              all_goals (try unfold leS)
              all_goals (first | rw [a50] | skip)
              all_goals simp [hs1]
          · by_cases hi0 : i = 0
            · have hpb : (if i = 0 then none else (l[i-1]?).map (·.var)).any (leS a.var ·) = false := by simp [hi0]
              rw [hpb]
              cases nm
              all_goals refine AW.draw (T := { sd := fun d => d == 1 || d == 6 }) (fun _ _ h => by cases h) mixedO [(0, 0), (1, 0), (2, 0), (3, 0), (4, 0), (5, 0), (6, 0), (8, 0), (10, 0), (11, 0), (7, 1), (9, 1), (12, 0), (13, 0), (14, 1), (15, 0), (16, 0), (17, 0), (18, 0), (19, 0), (20, 0), (21, 0), (22, 1), (23, 2), (24, 0)] rfl (by kernel_rfl) (by kernel_rfl) ?_
              all_goals iterate 3 (refine D.g rfl trivial rfl rfl fun K' k' => ?_; simp only [zz, reduceIte, Nat.reduceEqDiff, Nat.reduceAdd, f1, k1, f3, f4, f16, f17, f18, f6, k6, f5, f7, hs2]; refine k' _ _ ?_; clear k' K')
              all_goals (first | (refine D.y rfl trivial rfl rfl rfl rfl fun K' k' => ?_; simp only [zz, reduceIte, Nat.reduceEqDiff, Nat.reduceAdd, f1, k1, f3, f4, f16, f17, f18, f6, k6, f5, f7, hs2]; refine k' _ _ ?_; clear k' K') | ((first | refine D.x rfl (fun h => by cases h) rfl rfl rfl rfl fun K' k' => ?_ | refine D.u rfl (fun h => by cases h) rfl rfl rfl rfl fun K' k' => ?_); simp only [ze, reduceIte, Nat.reduceEqDiff]; refine k' _ _ ?_; clear k' K'))
              all_goals (first | (refine D.y rfl trivial rfl rfl rfl rfl fun K' k' => ?_; simp only [zz, reduceIte, Nat.reduceEqDiff, Nat.reduceLT, Nat.reduceLeDiff, Nat.reduceAdd, reduceCtorEq, Nat.reduceMul, f1, k1, f3, f4, f16, f17, f18, f6, k6, f5, f7, hs2]; refine S.bool fun b a39 => ?_; cases b <;> (try (exfalso; first | exact Bool.noConfusion a39 | (have h := of_decide_eq_true a39; omega) | (have h := of_decide_eq_false a39; omega))) <;> (refine k' _ _ ?_; clear k' K')) | ((first | refine D.x rfl (fun h => by cases h) rfl rfl rfl rfl fun K' k' => ?_ | refine D.u rfl (fun h => by cases h) rfl rfl rfl rfl fun K' k' => ?_); simp only [ze, reduceIte, Nat.reduceEqDiff]; refine k' _ _ ?_; clear k' K'))
              all_goals iterate 5 (first | (refine D.y rfl trivial rfl rfl rfl rfl fun K' k' => ?_; simp only [zz, reduceIte, Nat.reduceEqDiff, Nat.reduceLT, Nat.reduceLeDiff, Nat.reduceAdd, reduceCtorEq, Nat.reduceMul, of42_0, of24_0, f1, k1, f3, f4, f16, f17, f18, f6, k6, f5, f7, hs2]; refine k' _ _ ?_; clear k' K') | ((first | refine D.x rfl (fun h => by cases h) rfl rfl rfl rfl fun K' k' => ?_ | refine D.u rfl (fun h => by cases h) rfl rfl rfl rfl fun K' k' => ?_); simp only [ze, reduceIte, Nat.reduceEqDiff]; refine k' _ _ ?_; clear k' K'))
              all_goals iterate 2 (first | (refine D.y rfl (by first | rfl | (simp only [stC, ze, reduceIte, Nat.reduceEqDiff, f1, k1, f3, f4, f16, f17, f18, f6, k6, f5, f7, hs2]; done) | (simp only [stC, ze, reduceIte, Nat.reduceEqDiff, f1, k1, f3, f4, f16, f17, f18, f6, k6, f5, f7, hs2]; rfl)) rfl rfl rfl rfl fun K' k' => ?_; simp only [zz, reduceIte, Nat.reduceEqDiff, Nat.reduceLT, Nat.reduceLeDiff, Nat.reduceAdd, reduceCtorEq, Nat.reduceMul, ok9, sz9, ag9, ok22, sz22, ag22, f1, k1, f3, f4, f16, f17, f18, f6, k6, f5, f7, hs2]; refine k' _ _ ?_; clear k' K') | ((first | refine D.x rfl (fun _ => rfl) rfl rfl rfl rfl fun K' k' => ?_ | refine D.u rfl (fun _ => rfl) rfl rfl rfl rfl fun K' k' => ?_); simp only [ze, reduceIte, Nat.reduceEqDiff]; refine k' _ _ ?_; clear k' K'))
              all_goals iterate 2 (first | (refine D.y rfl trivial rfl rfl rfl rfl fun K' k' => ?_; simp only [zz, reduceIte, Nat.reduceEqDiff, Nat.reduceLT, Nat.reduceLeDiff, Nat.reduceAdd, reduceCtorEq, Nat.reduceMul, sl22, el22, ok42, sz42, ag42, of42_0, f1, k1, f3, f4, f16, f17, f18, f6, k6, f5, f7, hs2]; refine k' _ _ ?_; clear k' K') | ((first | refine D.x rfl (fun h => by cases h) rfl rfl rfl rfl fun K' k' => ?_ | refine D.u rfl (fun h => by cases h) rfl rfl rfl rfl fun K' k' => ?_); simp only [ze, reduceIte, Nat.reduceEqDiff]; refine k' _ _ ?_; clear k' K'))
              all_goals (first | (refine D.y rfl (by first | rfl | (simp only [stC, ze, reduceIte, Nat.reduceEqDiff, f1, k1, f3, f4, f16, f17, f18, f6, k6, f5, f7, hs2]; done) | (simp only [stC, ze, reduceIte, Nat.reduceEqDiff, f1, k1, f3, f4, f16, f17, f18, f6, k6, f5, f7, hs2]; rfl)) rfl rfl rfl rfl fun K' k' => ?_; simp only [zz, reduceIte, Nat.reduceEqDiff, Nat.reduceLT, Nat.reduceLeDiff, Nat.reduceAdd, reduceCtorEq, Nat.reduceMul, ok9, sz9, ag9, f1, k1, f3, f4, f16, f17, f18, f6, k6, f5, f7, hs2]; refine k' _ _ ?_; clear k' K') | ((first | refine D.x rfl (fun _ => rfl) rfl rfl rfl rfl fun K' k' => ?_ | refine D.u rfl (fun _ => rfl) rfl rfl rfl rfl fun K' k' => ?_); simp only [ze, reduceIte, Nat.reduceEqDiff]; refine k' _ _ ?_; clear k' K'))
              all_goals (first | (refine D.y rfl trivial rfl rfl rfl rfl fun K' k' => ?_; simp only [zz, reduceIte, Nat.reduceEqDiff, Nat.reduceLT, Nat.reduceLeDiff, Nat.reduceAdd, reduceCtorEq, Nat.reduceMul, f1, k1, f3, f4, f16, f17, f18, f6, k6, f5, f7, hs2]; refine S.bool fun b a50 => ?_; cases b <;> (try (exfalso; first | exact Bool.noConfusion a50 | (have h := of_decide_eq_true a50; omega) | (have h := of_decide_eq_false a50; omega))) <;> (refine k' _ _ ?_; clear k' K')) | ((first | refine D.x rfl (fun h => by cases h) rfl rfl rfl rfl fun K' k' => ?_ | refine D.u rfl (fun h => by cases h) rfl rfl rfl rfl fun K' k' => ?_); simp only [ze, reduceIte, Nat.reduceEqDiff]; refine k' _ _ ?_; clear k' K'))
              all_goals (first | (refine D.y rfl trivial rfl rfl rfl rfl fun K' k' => ?_; simp only [zz, reduceIte, Nat.reduceEqDiff, Nat.reduceAdd, f1, k1, f3, f4, f16, f17, f18, f6, k6, f5, f7, hs2]; refine k' _ _ ?_; clear k' K') | ((first | refine D.x rfl (fun h => by cases h) rfl rfl rfl rfl fun K' k' => ?_ | refine D.u rfl (fun h => by cases h) rfl rfl rfl rfl fun K' k' => ?_); simp only [ze, reduceIte, Nat.reduceEqDiff]; refine k' _ _ ?_; clear k' K'))
              all_goals iterate 2 (refine D.g rfl trivial rfl rfl fun K' k' => ?_; simp only [zz, reduceIte, Nat.reduceEqDiff, Nat.reduceAdd, f1, k1, f3, f4, f16, f17, f18, f6, k6, f5, f7, hs2]; refine k' _ _ ?_; clear k' K')
              all_goals iterate 3 (first | (refine D.y rfl trivial rfl rfl rfl rfl fun K' k' => ?_; simp only [zz, reduceIte, Nat.reduceEqDiff, Nat.reduceLT, Nat.reduceLeDiff, Nat.reduceAdd, reduceCtorEq, Nat.reduceMul, of42_1, of36_0, f1, k1, f3, f4, f16, f17, f18, f6, k6, f5, f7, hs2]; refine k' _ _ ?_; clear k' K') | ((first | refine D.x rfl (fun h => by cases h) rfl rfl rfl rfl fun K' k' => ?_ | refine D.u rfl (fun h => by cases h) rfl rfl rfl rfl fun K' k' => ?_); simp only [ze, reduceIte, Nat.reduceEqDiff]; refine k' _ _ ?_; clear k' K'))
              all_goals (first | (refine D.y rfl (by first | rfl | (simp only [stC, ze, reduceIte, Nat.reduceEqDiff, f1, k1, f3, f4, f16, f17, f18, f6, k6, f5, f7, hs2]; done) | (simp only [stC, ze, reduceIte, Nat.reduceEqDiff, f1, k1, f3, f4, f16, f17, f18, f6, k6, f5, f7, hs2]; rfl)) rfl rfl rfl rfl fun K' k' => ?_; simp only [zz, reduceIte, Nat.reduceEqDiff, Nat.reduceLT, Nat.reduceLeDiff, Nat.reduceAdd, reduceCtorEq, Nat.reduceMul, ok33, sz33, ag33, f1, k1, f3, f4, f16, f17, f18, f6, k6, f5, f7, hs2]; refine k' _ _ ?_; clear k' K') | ((first | refine D.x rfl (fun _ => rfl) rfl rfl rfl rfl fun K' k' => ?_ | refine D.u rfl (fun _ => rfl) rfl rfl rfl rfl fun K' k' => ?_); simp only [ze, reduceIte, Nat.reduceEqDiff]; refine k' _ _ ?_; clear k' K'))
              all_goals (first | (refine D.y rfl trivial rfl rfl rfl rfl fun K' k' => ?_; simp only [zn, reduceIte, Nat.reduceEqDiff, Nat.reduceLT, Nat.reduceLeDiff, Nat.reduceAdd, reduceCtorEq, Nat.reduceMul, f1, k1, f3, f4, f16, f17, f18, f6, k6, f5, f7, hs2]; refine ⟨_, _, _, Try.underlying106, key33, rfl, entOk_seen _, ?_⟩; (try simp only [zt4, ofC, Option.some.injEq, exists_eq_left', zz, reduceIte, Nat.reduceEqDiff, Nat.reduceLT, Nat.reduceLeDiff, Nat.reduceAdd, reduceCtorEq, Nat.reduceMul, f1, k1, f3, f4, f16, f17, f18, f6, k6, f5, f7, hs2]) <;> (refine k' _ _ ?_; clear k' K')) | ((first | refine D.x rfl (fun h => by cases h) rfl rfl rfl rfl fun K' k' => ?_ | refine D.u rfl (fun h => by cases h) rfl rfl rfl rfl fun K' k' => ?_); simp only [ze, reduceIte, Nat.reduceEqDiff]; refine k' _ _ ?_; clear k' K'))
              all_goals (refine D.g rfl trivial rfl rfl fun K' k' => ?_; simp only [zz, reduceIte, Nat.reduceEqDiff, Nat.reduceAdd, f1, k1, f3, f4, f16, f17, f18, f6, k6, f5, f7, hs2]; refine k' _ _ ?_; clear k' K')
              all_goals refine D.nil ?_
              all_goals simp only [ze, reduceIte, Nat.reduceEqDiff, Nat.reduceLT, Nat.reduceLeDiff, Nat.reduceAdd, reduceCtorEq, Nat.reduceMul, f1, k1, f3, f4, f16, f17, f18, f6, k6, f5, f7, hs2]
              all_goals (first | refine ⟨rfl, ?_⟩ | skip)
              all_goals simp [hs1]
            · have hi1 : i - 1 < l.length := by omega
              have hpb : (if i = 0 then none else (l[i-1]?).map (·.var)).any (leS a.var ·) = leS a.var l[i-1].var := by simp [hi0, hi1]
              rw [hpb]
              have hg1 := getD_map (f := encBd) hi1
              have hw : IntKind.i64.wrap ((i : Int) - 1) = ((i - 1 : Nat) : Int) := by rw [wrap_small _ (by omega) (by omega)]; omega
              cases nm
              all_goals refine AW.draw (T := { sd := fun d => d == 1 || d == 6 }) (fun _ _ h => by cases h) mixedO [(0, 0), (1, 0), (2, 0), (3, 0), (4, 0), (5, 0), (6, 0), (8, 0), (10, 0), (11, 0), (7, 1), (9, 1), (12, 0), (13, 0), (14, 1), (15, 0), (16, 0), (17, 0), (18, 0), (19, 0), (20, 0), (21, 0), (22, 1), (23, 2), (24, 0)] rfl (by kernel_rfl) (by kernel_rfl) ?_
              all_goals iterate 3 (refine D.g rfl trivial rfl rfl fun K' k' => ?_; simp only [zz, reduceIte, Nat.reduceEqDiff, Nat.reduceAdd, f1, k1, f3, f4, f16, f17, f18, f6, k6, f5, f7, hs2, hi1, hg1, encBd, hw]; refine k' _ _ ?_; clear k' K')
              all_goals (first | (refine D.y rfl trivial rfl rfl rfl rfl fun K' k' => ?_; simp only [zz, reduceIte, Nat.reduceEqDiff, Nat.reduceAdd, f1, k1, f3, f4, f16, f17, f18, f6, k6, f5, f7, hs2, hi1, hg1, encBd, hw]; refine k' _ _ ?_; clear k' K') | ((first | refine D.x rfl (fun h => by cases h) rfl rfl rfl rfl fun K' k' => ?_ | refine D.u rfl (fun h => by cases h) rfl rfl rfl rfl fun K' k' => ?_); simp only [ze, reduceIte, Nat.reduceEqDiff]; refine k' _ _ ?_; clear k' K'))
              all_goals (first | (refine D.y rfl trivial rfl rfl rfl rfl fun K' k' => ?_; simp only [zz, reduceIte, Nat.reduceEqDiff, Nat.reduceLT, Nat.reduceLeDiff, Nat.reduceAdd, reduceCtorEq, Nat.reduceMul, f1, k1, f3, f4, f16, f17, f18, f6, k6, f5, f7, hs2, hi1, hg1, encBd, hw]; refine S.bool fun b a39 => ?_; cases b <;> (try (exfalso; first | exact Bool.noConfusion a39 | (have h := of_decide_eq_true a39; omega) | (have h := of_decide_eq_false a39; omega))) <;> (refine k' _ _ ?_; clear k' K')) | ((first | refine D.x rfl (fun h => by cases h) rfl rfl rfl rfl fun K' k' => ?_ | refine D.u rfl (fun h => by cases h) rfl rfl rfl rfl fun K' k' => ?_); simp only [ze, reduceIte, Nat.reduceEqDiff]; refine k' _ _ ?_; clear k' K'))
              all_goals iterate 5 (first | (refine D.y rfl trivial rfl rfl rfl rfl fun K' k' => ?_; simp only [zz, reduceIte, Nat.reduceEqDiff, Nat.reduceLT, Nat.reduceLeDiff, Nat.reduceAdd, reduceCtorEq, Nat.reduceMul, of42_0, of24_0, f1, k1, f3, f4, f16, f17, f18, f6, k6, f5, f7, hs2, hi1, hg1, encBd, hw]; refine k' _ _ ?_; clear k' K') | ((first | refine D.x rfl (fun h => by cases h) rfl rfl rfl rfl fun K' k' => ?_ | refine D.u rfl (fun h => by cases h) rfl rfl rfl rfl fun K' k' => ?_); simp only [ze, reduceIte, Nat.reduceEqDiff]; refine k' _ _ ?_; clear k' K'))
              all_goals iterate 2 (first | (refine D.y rfl (by first | rfl | (simp only [stC, ze, reduceIte, Nat.reduceEqDiff, f1, k1, f3, f4, f16, f17, f18, f6, k6, f5, f7, hs2, hi1, hg1, encBd, hw]; done) | (simp only [stC, ze, reduceIte, Nat.reduceEqDiff, f1, k1, f3, f4, f16, f17, f18, f6, k6, f5, f7, hs2, hi1, hg1, encBd, hw]; rfl)) rfl rfl rfl rfl fun K' k' => ?_; simp only [zz, reduceIte, Nat.reduceEqDiff, Nat.reduceLT, Nat.reduceLeDiff, Nat.reduceAdd, reduceCtorEq, Nat.reduceMul, ok9, sz9, ag9, ok22, sz22, ag22, f1, k1, f3, f4, f16, f17, f18, f6, k6, f5, f7, hs2, hi1, hg1, encBd, hw]; refine k' _ _ ?_; clear k' K') | ((first | refine D.x rfl (fun _ => rfl) rfl rfl rfl rfl fun K' k' => ?_ | refine D.u rfl (fun _ => rfl) rfl rfl rfl rfl fun K' k' => ?_); simp only [ze, reduceIte, Nat.reduceEqDiff]; refine k' _ _ ?_; clear k' K'))
              all_goals iterate 2 (first | (refine D.y rfl trivial rfl rfl rfl rfl fun K' k' => ?_; simp only [zz, reduceIte, Nat.reduceEqDiff, Nat.reduceLT, Nat.reduceLeDiff, Nat.reduceAdd, reduceCtorEq, Nat.reduceMul, sl22, el22, ok42, sz42, ag42, of42_0, f1, k1, f3, f4, f16, f17, f18, f6, k6, f5, f7, hs2, hi1, hg1, encBd, hw]; refine k' _ _ ?_; clear k' K') | ((first | refine D.x rfl (fun h => by cases h) rfl rfl rfl rfl fun K' k' => ?_ | refine D.u rfl (fun h => by cases h) rfl rfl rfl rfl fun K' k' => ?_); simp only [ze, reduceIte, Nat.reduceEqDiff]; refine k' _ _ ?_; clear k' K'))
              all_goals (first | (refine D.y rfl (by first | rfl | (simp only [stC, ze, reduceIte, Nat.reduceEqDiff, f1, k1, f3, f4, f16, f17, f18, f6, k6, f5, f7, hs2, hi1, hg1, encBd, hw]; done) | (simp only [stC, ze, reduceIte, Nat.reduceEqDiff, f1, k1, f3, f4, f16, f17, f18, f6, k6, f5, f7, hs2, hi1, hg1, encBd, hw]; rfl)) rfl rfl rfl rfl fun K' k' => ?_; simp only [zz, reduceIte, Nat.reduceEqDiff, Nat.reduceLT, Nat.reduceLeDiff, Nat.reduceAdd, reduceCtorEq, Nat.reduceMul, ok9, sz9, ag9, f1, k1, f3, f4, f16, f17, f18, f6, k6, f5, f7, hs2, hi1, hg1, encBd, hw]; refine k' _ _ ?_; clear k' K') | ((first | refine D.x rfl (fun _ => rfl) rfl rfl rfl rfl fun K' k' => ?_ | refine D.u rfl (fun _ => rfl) rfl rfl rfl rfl fun K' k' => ?_); simp only [ze, reduceIte, Nat.reduceEqDiff]; refine k' _ _ ?_; clear k' K'))
              all_goals (first | (refine D.y rfl trivial rfl rfl rfl rfl fun K' k' => ?_; simp only [zz, reduceIte, Nat.reduceEqDiff, Nat.reduceLT, Nat.reduceLeDiff, Nat.reduceAdd, reduceCtorEq, Nat.reduceMul, f1, k1, f3, f4, f16, f17, f18, f6, k6, f5, f7, hs2, hi1, hg1, encBd, hw]; refine S.bool fun b a50 => ?_; cases b <;> (try (exfalso; first | exact Bool.noConfusion a50 | (have h := of_decide_eq_true a50; omega) | (have h := of_decide_eq_false a50; omega))) <;> (refine k' _ _ ?_; clear k' K')) | ((first | refine D.x rfl (fun h => by cases h) rfl rfl rfl rfl fun K' k' => ?_ | refine D.u rfl (fun h => by cases h) rfl rfl rfl rfl fun K' k' => ?_); simp only [ze, reduceIte, Nat.reduceEqDiff]; refine k' _ _ ?_; clear k' K'))
              all_goals (first | (refine D.y rfl trivial rfl rfl rfl rfl fun K' k' => ?_; simp only [zz, reduceIte, Nat.reduceEqDiff, Nat.reduceAdd, f1, k1, f3, f4, f16, f17, f18, f6, k6, f5, f7, hs2, hi1, hg1, encBd, hw]; refine k' _ _ ?_; clear k' K') | ((first | refine D.x rfl (fun h => by cases h) rfl rfl rfl rfl fun K' k' => ?_ | refine D.u rfl (fun h => by cases h) rfl rfl rfl rfl fun K' k' => ?_); simp only [ze, reduceIte, Nat.reduceEqDiff]; refine k' _ _ ?_; clear k' K'))
              all_goals iterate 2 (refine D.g rfl trivial rfl rfl fun K' k' => ?_; simp only [zz, reduceIte, Nat.reduceEqDiff, Nat.reduceAdd, f1, k1, f3, f4, f16, f17, f18, f6, k6, f5, f7, hs2, hi1, hg1, encBd, hw]; refine k' _ _ ?_; clear k' K')
              all_goals iterate 3 (first | (refine D.y rfl trivial rfl rfl rfl rfl fun K' k' => ?_; simp only [zz, reduceIte, Nat.reduceEqDiff, Nat.reduceLT, Nat.reduceLeDiff, Nat.reduceAdd, reduceCtorEq, Nat.reduceMul, of42_1, of36_0, f1, k1, f3, f4, f16, f17, f18, f6, k6, f5, f7, hs2, hi1, hg1, encBd, hw]; refine k' _ _ ?_; clear k' K') | ((first | refine D.x rfl (fun h => by cases h) rfl rfl rfl rfl fun K' k' => ?_ | refine D.u rfl (fun h => by cases h) rfl rfl rfl rfl fun K' k' => ?_); simp only [ze, reduceIte, Nat.reduceEqDiff]; refine k' _ _ ?_; clear k' K'))
              all_goals (first | (refine D.y rfl (by first | rfl | (simp only [stC, ze, reduceIte, Nat.reduceEqDiff, f1, k1, f3, f4, f16, f17, f18, f6, k6, f5, f7, hs2, hi1, hg1, encBd, hw]; done) | (simp only [stC, ze, reduceIte, Nat.reduceEqDiff, f1, k1, f3, f4, f16, f17, f18, f6, k6, f5, f7, hs2, hi1, hg1, encBd, hw]; rfl)) rfl rfl rfl rfl fun K' k' => ?_; simp only [zz, reduceIte, Nat.reduceEqDiff, Nat.reduceLT, Nat.reduceLeDiff, Nat.reduceAdd, reduceCtorEq, Nat.reduceMul, ok33, sz33, ag33, f1, k1, f3, f4, f16, f17, f18, f6, k6, f5, f7, hs2, hi1, hg1, encBd, hw]; refine k' _ _ ?_; clear k' K') | ((first | refine D.x rfl (fun _ => rfl) rfl rfl rfl rfl fun K' k' => ?_ | refine D.u rfl (fun _ => rfl) rfl rfl rfl rfl fun K' k' => ?_); simp only [ze, reduceIte, Nat.reduceEqDiff]; refine k' _ _ ?_; clear k' K'))
              all_goals (first | (refine D.y rfl trivial rfl rfl rfl rfl fun K' k' => ?_; simp only [zn, reduceIte, Nat.reduceEqDiff, Nat.reduceLT, Nat.reduceLeDiff, Nat.reduceAdd, reduceCtorEq, Nat.reduceMul, f1, k1, f3, f4, f16, f17, f18, f6, k6, f5, f7, hs2, hi1, hg1, encBd, hw]; refine ⟨_, _, _, Try.underlying106, key33, rfl, entOk_seen _, ?_⟩; (try simp only [zt4, ofC, Option.some.injEq, exists_eq_left', zz, reduceIte, Nat.reduceEqDiff, Nat.reduceLT, Nat.reduceLeDiff, Nat.reduceAdd, reduceCtorEq, Nat.reduceMul, f1, k1, f3, f4, f16, f17, f18, f6, k6, f5, f7, hs2, hi1, hg1, encBd, hw]) <;> (refine k' _ _ ?_; clear k' K')) | ((first | refine D.x rfl (fun h => by cases h) rfl rfl rfl rfl fun K' k' => ?_ | refine D.u rfl (fun h => by cases h) rfl rfl rfl rfl fun K' k' => ?_); simp only [ze, reduceIte, Nat.reduceEqDiff]; refine k' _ _ ?_; clear k' K'))
              all_goals (refine D.g rfl trivial rfl rfl fun K' k' => ?_; simp only [zz, reduceIte, Nat.reduceEqDiff, Nat.reduceAdd, f1, k1, f3, f4, f16, f17, f18, f6, k6, f5, f7, hs2, hi1, hg1, encBd, hw]; refine k' _ _ ?_; clear k' K')
              all_goals refine D.nil ?_
              all_goals simp only [ze, reduceIte, Nat.reduceEqDiff, Nat.reduceLT, Nat.reduceLeDiff, Nat.reduceAdd, reduceCtorEq, Nat.reduceMul, f1, k1, f3, f4, f16, f17, f18, f6, k6, f5, f7, hs2, hi1, hg1, encBd, hw]
              all_goals (first | refine ⟨rfl, ?_⟩ | skip)
              all_goals (try unfold leS)
              all_goals (first | rw [a50] | skip)
              all_goals simp [hs1]
        rintro s2 σ2 ⟨rfl, g1, j1, g3, g4, g16, g17, g18, g6, j6, g59⟩
        refine AW.cond (b := _) g59 (fun hc => ?_) (fun hc => ?_)
        · refine AW.seq_k fun K13 h13 => ?_
          all_goals refine AW.reg0 ?_
          all_goals (refine S.g rfl rfl fun K' k' => ?_; simp only [zz, reduceIte, Nat.reduceEqDiff, Nat.reduceAdd]; refine k' _ _ ?_; clear k' K')
          all_goals refine S.nil ?_
          all_goals simp only [ze, reduceIte, Nat.reduceEqDiff, Nat.reduceLT, Nat.reduceLeDiff, Nat.reduceAdd, reduceCtorEq, Nat.reduceMul]
          all_goals apply_assumption
          refine AW.bare (AW.ret ?_)
          all_goals simp only [zs, reduceIte, Nat.reduceEqDiff, Nat.reduceLT, Nat.reduceLeDiff, Nat.reduceAdd, reduceCtorEq, Nat.reduceMul]
          have h8 : ¬ 12 < l.length := by omega
          have hx := of_decide_eq_true hc
          simp only [partErr, if_neg h8, hp, hd, partFrom, if_pos hx, and_self]
        · refine AW.skip ?_
          have hx := of_decide_eq_false hc
          all_goals simp only [zs, reduceIte, Nat.reduceEqDiff, Nat.reduceLT, Nat.reduceLeDiff, Nat.reduceAdd, reduceCtorEq, Nat.reduceMul]
          refine ⟨g1, j1, g3, g4, g16, g17, g18, g6, j6, ?_, ?_, ?_⟩
          · exact (Bool.not_eq_false _).mp fun e => hx (.inl e)
          · exact (Bool.not_eq_true _).mp fun e => hx (.inr (.inl e))
          · exact fun e => hx (.inr (.inr e))
      rintro s2 σ2 ⟨rfl, g1, j1, g3, g4, g16, g17, g18, g6, j6, hx1, hx2, hx3⟩
      rw [encBd] at j6
      have hs2 : entV (sn.map ent) (.agg ⟨[.int .i64 a.ev.src, .int .i64 a.ev.seq]⟩) 0 = none := by
        rcases hsn with ⟨_, h⟩ | ⟨h, _⟩
        · exact h
        · exact absurd h hx3
      refine AW.seq_k fun K14 h14 => ?_
      all_goals refine AW.reg0 ?_
      all_goals iterate 4 (refine S.g rfl rfl fun K' k' => ?_; simp only [zz, reduceIte, Nat.reduceEqDiff, Nat.reduceLT, Nat.reduceLeDiff, Nat.reduceAdd, reduceCtorEq, Nat.reduceMul, of42_1, of36_0, ok33, sz33, ag33, g1, j1, g3, g4, g16, g17, g18, g6, j6, hs2]; refine k' _ _ ?_; clear k' K')
      all_goals (refine S.g rfl rfl fun K' k' => ?_; simp only [zn, reduceIte, Nat.reduceEqDiff, Nat.reduceLT, Nat.reduceLeDiff, Nat.reduceAdd, reduceCtorEq, Nat.reduceMul, g1, j1, g3, g4, g16, g17, g18, g6, j6, hs2]; refine ⟨_, _, _, Try.underlying106, key33, rfl, entOk_seen _, ?_⟩; (try simp only [zt4, ofC, Option.some.injEq, exists_eq_left', zz, reduceIte, Nat.reduceEqDiff, Nat.reduceLT, Nat.reduceLeDiff, Nat.reduceAdd, reduceCtorEq, Nat.reduceMul, g1, j1, g3, g4, g16, g17, g18, g6, j6, hs2]) <;> (refine k' _ _ ?_; clear k' K'))
      all_goals refine S.nil ?_
      all_goals simp only [ze, reduceIte, Nat.reduceEqDiff, Nat.reduceLT, Nat.reduceLeDiff, Nat.reduceAdd, reduceCtorEq, Nat.reduceMul, g1, j1, g3, g4, g16, g17, g18, g6, j6, hs2]
      all_goals apply_assumption
      refine AW.seq_k fun K15 h15 => ?_
      all_goals refine AW.reg0 ?_
      all_goals iterate 2 (refine S.g rfl rfl fun K' k' => ?_; simp only [zz, reduceIte, Nat.reduceEqDiff, Nat.reduceLT, Nat.reduceLeDiff, Nat.reduceAdd, reduceCtorEq, Nat.reduceMul, of42_1, ok36, sz36, ag36, g1, j1, g3, g4, g16, g17, g18, g6, j6]; refine k' _ _ ?_; clear k' K')
      all_goals (refine S.g rfl rfl fun K' k' => ?_; simp only [zz, reduceIte, Nat.reduceEqDiff, Nat.reduceLT, Nat.reduceLeDiff, Nat.reduceAdd, reduceCtorEq, Nat.reduceMul, g1, j1, g3, g4, g16, g17, g18, g6, j6]; refine ((check_ev _ (by assumption)).eqto ?_) <;> (refine k' _ _ ?_; clear k' K'))
      all_goals (refine S.g rfl rfl fun K' k' => ?_; simp only [zz, reduceIte, Nat.reduceEqDiff, Nat.reduceAdd, g1, j1, g3, g4, g16, g17, g18, g6, j6]; refine k' _ _ ?_; clear k' K')
      all_goals refine S.nil ?_
      all_goals simp only [ze, reduceIte, Nat.reduceEqDiff, Nat.reduceLT, Nat.reduceLeDiff, Nat.reduceAdd, reduceCtorEq, Nat.reduceMul, g1, j1, g3, g4, g16, g17, g18, g6, j6]
      all_goals apply_assumption
      refine AW.seq_k fun K16 h16 => ?_
      all_goals refine AW.reg0 ?_
      all_goals iterate 2 (refine S.g rfl rfl fun K' k' => ?_; simp only [zz, reduceIte, Nat.reduceEqDiff, Nat.reduceAdd]; refine k' _ _ ?_; clear k' K')
      all_goals refine S.nil ?_
      all_goals simp only [ze, reduceIte, Nat.reduceEqDiff, Nat.reduceLT, Nat.reduceLeDiff, Nat.reduceAdd, reduceCtorEq, Nat.reduceMul]
      all_goals apply_assumption
      refine AW.cond (b := evErr a.ev != 0) (by simp [ev]) (fun hc => ?_) (fun hc => ?_)
      · refine AW.seq_k fun K17 h17 => ?_
        all_goals refine AW.reg0 ?_
        all_goals iterate 2 (refine S.g rfl rfl fun K' k' => ?_; simp only [zz, reduceIte, Nat.reduceEqDiff, Nat.reduceAdd]; refine k' _ _ ?_; clear k' K')
        all_goals refine S.nil ?_
        all_goals simp only [ze, reduceIte, Nat.reduceEqDiff, Nat.reduceLT, Nat.reduceLeDiff, Nat.reduceAdd, reduceCtorEq, Nat.reduceMul]
        all_goals apply_assumption
        refine AW.bare (AW.ret ?_)
        all_goals simp only [zs, reduceIte, Nat.reduceEqDiff, Nat.reduceLT, Nat.reduceLeDiff, Nat.reduceAdd, reduceCtorEq, Nat.reduceMul]
        have hy : evErr a.ev ≠ 0 := by simpa using hc
        have h8 : ¬ 12 < l.length := by omega
        have hx : ¬ (named l.length a = false ∨ (if i = 0 then none else (l[i-1]?).map (·.var)).any (leS a.var ·) = true ∨ (a.ev.src, a.ev.seq) ∈ sn) := by rw [hx1, hx2]; simp [hx3]
        simp only [partErr, if_neg h8, hp, hd, partFrom, if_neg hx, if_pos hy, and_self]
      · refine AW.skip ?_
        all_goals simp only [zs, reduceIte, Nat.reduceEqDiff, Nat.reduceLT, Nat.reduceLeDiff, Nat.reduceAdd, reduceCtorEq, Nat.reduceMul]
        all_goals apply_assumption
        have hy : evErr a.ev = 0 := by simpa using hc
        have hw : IntKind.i64.wrap ((i : Int) + 1) = ((i + 1 : Nat) : Int) := by rw [wrap_small _ (by omega) (by omega)]; rfl
        have hx : ¬ (named l.length a = false ∨ (if i = 0 then none else (l[i-1]?).map (·.var)).any (leS a.var ·) = true ∨ (a.ev.src, a.ev.seq) ∈ sn) := by rw [hx1, hx2]; simp [hx3]
        all_goals refine AW.reg0 ?_
        all_goals iterate 2 (refine S.g rfl rfl fun K' k' => ?_; simp only [zz, reduceIte, Nat.reduceEqDiff, Nat.reduceAdd, g18, hw]; refine k' _ _ ?_; clear k' K')
        all_goals refine S.nil ?_
        all_goals simp only [ze, reduceIte, Nat.reduceEqDiff, Nat.reduceLT, Nat.reduceLeDiff, Nat.reduceAdd, reduceCtorEq, Nat.reduceMul, g18, hw]
        refine ⟨m - 1, by omega, i + 1, sn ++ [(a.ev.src, a.ev.seq)], by omega, by simp [ent], g1, j1, g3, g4, g16, g17, rfl, ?_⟩
        rw [hp, hd, partFrom, if_neg hx, if_neg (fun e => e hy)]
        simp [ha, hi]
    · refine AW.exit ?_
      all_goals simp only [zs, reduceIte, Nat.reduceEqDiff, Nat.reduceLT, Nat.reduceLeDiff, Nat.reduceAdd, reduceCtorEq, Nat.reduceMul]
      -- EXIT 0
      all_goals apply_assumption
      refine AW.seq_k fun K18 h18 => ?_
      all_goals refine AW.reg0 ?_
      all_goals (refine S.g rfl rfl fun K' k' => ?_; simp only [zz, reduceIte, Nat.reduceEqDiff, Nat.reduceAdd]; refine k' _ _ ?_; clear k' K')
      all_goals refine S.nil ?_
      all_goals simp only [ze, reduceIte, Nat.reduceEqDiff, Nat.reduceLT, Nat.reduceLeDiff, Nat.reduceAdd, reduceCtorEq, Nat.reduceMul]
      all_goals apply_assumption
      refine AW.bare (AW.ret ?_)
      all_goals simp only [zs, reduceIte, Nat.reduceEqDiff, Nat.reduceLT, Nat.reduceLeDiff, Nat.reduceAdd, reduceCtorEq, Nat.reduceMul]
      have hi : l.length ≤ i := by simpa using hc
      have h8 : ¬ 12 < l.length := by omega
      simp [partErr, h8, hp, List.drop_of_length_le hi, partFrom]
end Go.Abs.M
namespace Go.Abs.M
open Go Go.Abs Go.Proofs
set_option maxRecDepth 20000
set_option linter.unusedSimpArgs false
set_option linter.unusedVariables false
theorem len_attr (l : List Attr) : ∀ (e : List V), e ∈ l.map encAttr → e.length = 4 := fun e he => by
  obtain ⟨a, _, rfl⟩ := List.mem_map.1 he; rfl
theorem len_bd (l : List Bd) : ∀ (e : List V), e ∈ l.map encBd → e.length = 6 := fun e he => by
  obtain ⟨a, _, rfl⟩ := List.mem_map.1 he; rfl
theorem clone_attrs (l : List Attr) (hl : l.length * 48 ≤ 140737488355328) : PCalls Try.prog 111 [.sl (l.map encAttr)] (fun r => r = .sl (l.map encAttr)) := by
  refine PCalls.intro Try.call111 Try.func111 rfl Try.ntmps111 Try.results111 (by simp) ?_
  refine AW.seq_k fun K1 h1 => ?_
  all_goals refine AW.reg0 ?_
  all_goals (refine S.g rfl rfl fun K' k' => ?_; simp only [zz, reduceIte, Nat.reduceEqDiff, Nat.reduceAdd]; refine k' _ _ ?_; clear k' K')
  all_goals refine S.nil ?_
  all_goals simp only [ze, reduceIte, Nat.reduceEqDiff, Nat.reduceLT, Nat.reduceLeDiff, Nat.reduceAdd, reduceCtorEq, Nat.reduceMul]
  all_goals apply_assumption
  refine AW.seq_j (fun s' σ' => σ' = Hp.empty ∧ s'.t 0 = .sl (l.map encAttr)) ?_ ?_
  · refine AW.seq_j (fun s' σ' => σ' = Hp.empty ∧ s'.t 0 = .sl (l.map encAttr) ∧ ∃ b, s'.t 4 = .c (.bool b) ∧ (b = true → l = [])) ?_ ?_
    · skip
      all_goals refine AW.reg0 ?_
      all_goals (refine S.g rfl rfl fun K' k' => ?_; simp only [zz, reduceIte, Nat.reduceEqDiff, Nat.reduceAdd]; refine k' _ _ ?_; clear k' K')
      all_goals (refine S.g rfl rfl fun K' k' => ?_; simp only [zz, reduceIte, Nat.reduceEqDiff, Nat.reduceLT, Nat.reduceLeDiff, Nat.reduceAdd, reduceCtorEq, Nat.reduceMul, sl34]; refine ⟨fun hne => ?_, fun hz b => ?_⟩ <;> (refine k' _ _ ?_; clear k' K'))
      all_goals refine S.nil ?_
      all_goals simp only [ze, reduceIte, Nat.reduceEqDiff, Nat.reduceLT, Nat.reduceLeDiff, Nat.reduceAdd, reduceCtorEq, Nat.reduceMul]
      · exact ⟨_, rfl, fun h => by cases h⟩
      · exact ⟨_, rfl, fun _ => hz⟩
    rintro s σ ⟨rfl, e0, b, e4, hb⟩
    refine AW.cond (b := b) e4 (fun hc => ?_) (fun hc => AW.skip ?_)
    · refine AW.seq_k fun K2 h2 => ?_
      all_goals refine AW.reg0 ?_
      all_goals (refine S.g rfl rfl fun K' k' => ?_; simp only [zz, reduceIte, Nat.reduceEqDiff, Nat.reduceAdd]; refine k' _ _ ?_; clear k' K')
      all_goals refine S.nil ?_
      all_goals simp only [ze, reduceIte, Nat.reduceEqDiff, Nat.reduceLT, Nat.reduceLeDiff, Nat.reduceAdd, reduceCtorEq, Nat.reduceMul]
      all_goals apply_assumption
      refine AW.ret ?_
      all_goals simp only [zs, reduceIte, Nat.reduceEqDiff, Nat.reduceLT, Nat.reduceLeDiff, Nat.reduceAdd, reduceCtorEq, Nat.reduceMul]
      rw [hb hc]; rfl
    · all_goals simp only [zs, reduceIte, Nat.reduceEqDiff, Nat.reduceLT, Nat.reduceLeDiff, Nat.reduceAdd, reduceCtorEq, Nat.reduceMul]
      exact e0
  rintro s σ ⟨rfl, e0⟩
  refine AW.seq_k fun K3 h3 => ?_
  all_goals refine AW.region (T := { own := fun d => d == 5 }) (fun _ _ h => by cases h) rfl ?_
  all_goals (refine S.g rfl rfl fun K' k' => ?_; simp only [zb, reduceIte, Nat.reduceEqDiff, Nat.reduceLT, Nat.reduceLeDiff, Nat.reduceAdd, reduceCtorEq, Nat.reduceMul, sl34, el34, ok143, sz143, ag143, zt143, by143, e0]; intro k1 hk1 <;> (refine k' _ _ ?_; clear k' K'))
  all_goals (refine S.g rfl rfl fun K' k' => ?_; simp only [zz, reduceIte, Nat.reduceEqDiff, Nat.reduceAdd, e0]; refine k' _ _ ?_; clear k' K')
  all_goals (refine S.g rfl rfl fun K' k' => ?_; simp only [zz, reduceIte, Nat.reduceEqDiff, Nat.reduceLT, Nat.reduceLeDiff, Nat.reduceAdd, reduceCtorEq, Nat.reduceMul, sl34, el34, ok143, sz143, ag143, zt143, by143, e0]; refine ⟨len_attr l, by unfold maxLen; omega, by unfold reach; omega, fun k2 hk2 => ?_⟩ <;> (refine k' _ _ ?_; clear k' K'))
  all_goals (refine S.g rfl rfl fun K' k' => ?_; simp only [zz, reduceIte, Nat.reduceEqDiff, Nat.reduceAdd, e0]; refine k' _ _ ?_; clear k' K')
  all_goals refine S.nil ?_
  all_goals simp only [ze, reduceIte, Nat.reduceEqDiff, Nat.reduceLT, Nat.reduceLeDiff, Nat.reduceAdd, reduceCtorEq, Nat.reduceMul, e0]
  all_goals apply_assumption
  refine AW.freeze (k := k2) (T := (143, 4)) (es := l.map encAttr) (by simp only [Hp.setGr_gr, if_true]) (AW.bare (AW.ret ?_))
  all_goals simp only [zs, reduceIte, Nat.reduceEqDiff, Nat.reduceLT, Nat.reduceLeDiff, Nat.reduceAdd, reduceCtorEq, Nat.reduceMul, fzV, fz1, St.fz_t, St.fz_l]
theorem clone_ev (e : Ev) (hl : e.attrs.length * 48 ≤ 140737488355328) : PCalls Try.prog 75 [.agg (encEv e)] (fun r => r = .agg (encEv e)) := by
  refine PCalls.intro Try.call75 Try.func75 rfl Try.ntmps75 Try.results75 (by simp) ?_
  refine AW.seq_k fun K1 h1 => ?_
  all_goals refine AW.reg0 ?_
  all_goals iterate 2 (refine S.g rfl rfl fun K' k' => ?_; simp only [zz, reduceIte, Nat.reduceEqDiff, Nat.reduceLT, Nat.reduceLeDiff, Nat.reduceAdd, reduceCtorEq, Nat.reduceMul, ok36, sz36, ag36, zt36, encEv]; refine k' _ _ ?_; clear k' K')
  all_goals refine S.nil ?_
  all_goals simp only [ze, reduceIte, Nat.reduceEqDiff, Nat.reduceLT, Nat.reduceLeDiff, Nat.reduceAdd, reduceCtorEq, Nat.reduceMul, encEv]
  all_goals apply_assumption
  refine AW.seq_k fun K2 h2 => ?_
  all_goals refine AW.reg0 ?_
  all_goals iterate 2 (refine S.g rfl rfl fun K' k' => ?_; simp only [zz, reduceIte, Nat.reduceEqDiff, Nat.reduceLT, Nat.reduceLeDiff, Nat.reduceAdd, reduceCtorEq, Nat.reduceMul, of36_3, ok34, sz34, ag34]; refine k' _ _ ?_; clear k' K')
  all_goals (refine S.g rfl rfl fun K' k' => ?_; simp only [zz, reduceIte, Nat.reduceEqDiff, Nat.reduceLT, Nat.reduceLeDiff, Nat.reduceAdd, reduceCtorEq, Nat.reduceMul]; refine PCalls.eqto (clone_attrs _ (by assumption)) ?_ <;> (refine k' _ _ ?_; clear k' K'))
  all_goals iterate 2 (refine S.g rfl rfl fun K' k' => ?_; simp only [zz, reduceIte, Nat.reduceEqDiff, Nat.reduceLT, Nat.reduceLeDiff, Nat.reduceAdd, reduceCtorEq, Nat.reduceMul, of36_3, ok34, sz34, ag34]; refine k' _ _ ?_; clear k' K')
  all_goals refine S.nil ?_
  all_goals simp only [ze, reduceIte, Nat.reduceEqDiff, Nat.reduceLT, Nat.reduceLeDiff, Nat.reduceAdd, reduceCtorEq, Nat.reduceMul]
  all_goals apply_assumption
  refine AW.seq_k fun K3 h3 => ?_
  all_goals refine AW.reg0 ?_
  all_goals iterate 2 (refine S.g rfl rfl fun K' k' => ?_; simp only [zz, reduceIte, Nat.reduceEqDiff, Nat.reduceLT, Nat.reduceLeDiff, Nat.reduceAdd, reduceCtorEq, Nat.reduceMul, ok36, sz36, ag36]; refine k' _ _ ?_; clear k' K')
  all_goals refine S.nil ?_
  all_goals simp only [ze, reduceIte, Nat.reduceEqDiff, Nat.reduceLT, Nat.reduceLeDiff, Nat.reduceAdd, reduceCtorEq, Nat.reduceMul]
  all_goals apply_assumption
  refine AW.ret ?_
  all_goals simp only [zs, reduceIte, Nat.reduceEqDiff, Nat.reduceLT, Nat.reduceLeDiff, Nat.reduceAdd, reduceCtorEq, Nat.reduceMul, qLoad, ok36, sz36, ag36, cut, List.drop_zero, List.take_succ_cons, List.take_zero]
  simp only [List.map, wk1, encEv]
theorem clone_part (l : List Bd) (hl : ∀ b ∈ l, b.ev.attrs.length * 48 ≤ 140737488355328) (hn : l.length * 80 ≤ 140737488355328) : PCalls Try.prog 30 [.agg [.sl (l.map encBd)]] (fun r => r = .agg [.sl (l.map encBd)]) := by
  refine PCalls.intro Try.call30 Try.func30 rfl Try.ntmps30 Try.results30 (by simp) ?_
  refine AW.seq_k fun K1 h1 => ?_
  all_goals refine AW.reg0 ?_
  all_goals iterate 2 (refine S.g rfl rfl fun K' k' => ?_; simp only [zz, reduceIte, Nat.reduceEqDiff, Nat.reduceLT, Nat.reduceLeDiff, Nat.reduceAdd, reduceCtorEq, Nat.reduceMul, ok24, sz24, ag24, zt24]; refine k' _ _ ?_; clear k' K')
  all_goals refine S.nil ?_
  all_goals simp only [ze, reduceIte, Nat.reduceEqDiff, Nat.reduceLT, Nat.reduceLeDiff, Nat.reduceAdd, reduceCtorEq, Nat.reduceMul]
  all_goals apply_assumption
  refine AW.seq_k fun K2 h2 => ?_
  all_goals refine AW.reg0 ?_
  all_goals (refine S.g rfl rfl fun K' k' => ?_; simp only [zz, reduceIte, Nat.reduceEqDiff, Nat.reduceAdd]; refine k' _ _ ?_; clear k' K')
  all_goals refine S.nil ?_
  all_goals simp only [ze, reduceIte, Nat.reduceEqDiff, Nat.reduceLT, Nat.reduceLeDiff, Nat.reduceAdd, reduceCtorEq, Nat.reduceMul]
  all_goals apply_assumption
  refine AW.seq_k fun K3 h3 => ?_
  refine AW.seq_k fun K4 h4 => ?_
  all_goals refine AW.reg0 ?_
  all_goals iterate 4 (refine S.g rfl rfl fun K' k' => ?_; simp only [zz, reduceIte, Nat.reduceEqDiff, Nat.reduceLT, Nat.reduceLeDiff, Nat.reduceAdd, reduceCtorEq, Nat.reduceMul, of24_0, ok22, sz22, ag22, sl22, el22, ok42, sz42, ag42]; refine k' _ _ ?_; clear k' K')
  all_goals refine S.nil ?_
  all_goals simp only [ze, reduceIte, Nat.reduceEqDiff, Nat.reduceLT, Nat.reduceLeDiff, Nat.reduceAdd, reduceCtorEq, Nat.reduceMul]
  all_goals apply_assumption
  refine AW.block ?_   -- 0
  refine AW.loop (fun m s σ => ∃ i : Nat, m + i = l.length ∧ s.t 1 = .lp 1 0 ∧ s.l 1 = some [.sl (l.map encBd)] ∧ s.t 2 = .lp 2 0 ∧ s.l 2 = some [.c (.slice none 0 0)] ∧ s.t 7 = .sl (l.map encBd) ∧ s.t 8 = .c (.int .i64 l.length) ∧ s.t 9 = .c (.int .i64 i) ∧
    ((i = 0 ∧ s.t 3 = .c (.slice none 0 0) ∧ σ = Hp.empty) ∨ ∃ k, s.t 3 = .gl k ∧ σ = Hp.empty.setGr k (some ((42, 6), (l.take i).map encBd)))) l.length ?_ ?_
  · refine ⟨0, by simp, ?_⟩
    all_goals simp only [zs, reduceIte, Nat.reduceEqDiff, Nat.reduceLT, Nat.reduceLeDiff, Nat.reduceAdd, reduceCtorEq, Nat.reduceMul]
    simp
  rintro m s σ ⟨i, hm, e1, l1, e2, l2, e7, e8, e9, hk⟩
  refine AW.seq_k fun K5 h5 => ?_
  all_goals refine AW.reg0 ?_
  all_goals (refine S.g rfl rfl fun K' k' => ?_; simp only [zz, reduceIte, Nat.reduceEqDiff, Nat.reduceAdd, e9, e8]; refine k' _ _ ?_; clear k' K')
  all_goals refine S.nil ?_
  all_goals simp only [ze, reduceIte, Nat.reduceEqDiff, Nat.reduceLT, Nat.reduceLeDiff, Nat.reduceAdd, reduceCtorEq, Nat.reduceMul, e9, e8]
  all_goals apply_assumption
  refine AW.seq_k fun K6 h6 => ?_
  refine AW.cond (b := decide (i < l.length)) (by simp [ev]) (fun hc => ?_) (fun hc => ?_)
  · refine AW.skip ?_
    all_goals simp only [zs, reduceIte, Nat.reduceEqDiff, Nat.reduceLT, Nat.reduceLeDiff, Nat.reduceAdd, reduceCtorEq, Nat.reduceMul]
    all_goals apply_assumption
    have hi : i < l.length := by simpa using hc
    have hg := getD_map (f := encBd) hi
    have htk : l.take (i + 1) = l.take i ++ [l[i]] := by rw [List.take_append_getElem]
    have hmem := hl _ (List.getElem_mem hi)
    generalize ha : l[i] = a at hg htk hmem
    refine AW.seq_k fun K7 h7 => ?_
    refine AW.block ?_   -- 1
    refine AW.seq_k fun K8 h8 => ?_
    all_goals refine AW.reg0 ?_
    all_goals iterate 4 (refine S.g rfl rfl fun K' k' => ?_; simp only [zz, reduceIte, Nat.reduceEqDiff, Nat.reduceLT, Nat.reduceLeDiff, Nat.reduceAdd, reduceCtorEq, Nat.reduceMul, sl22, el22, ok42, sz42, ag42, zt42, e7, e9, hi, hg, encBd]; refine k' _ _ ?_; clear k' K')
    all_goals refine S.nil ?_
    all_goals simp only [ze, reduceIte, Nat.reduceEqDiff, Nat.reduceLT, Nat.reduceLeDiff, Nat.reduceAdd, reduceCtorEq, Nat.reduceMul, e7, e9, hi, hg, encBd]
    all_goals apply_assumption
    rcases hk with ⟨rfl, e3, rfl⟩ | ⟨k, e3, rfl⟩
    · skip
      all_goals refine AW.draw (T := { sd := fun d => d == 5 }) (fun _ _ h => by cases h) mixedO [(0, 0), (1, 0), (3, 0), (2, 1), (4, 1), (5, 2), (6, 0), (7, 2), (8, 2), (9, 0)] rfl (by kernel_rfl) (by kernel_rfl) ?_
      all_goals iterate 3 (refine D.g rfl trivial rfl rfl fun K' k' => ?_; simp only [zz, reduceIte, Nat.reduceEqDiff, Nat.reduceLT, Nat.reduceLeDiff, Nat.reduceAdd, reduceCtorEq, Nat.reduceMul, of42_0, of42_1, e3, encEv]; refine k' _ _ ?_; clear k' K')
      all_goals iterate 2 (refine D.g rfl (by first | rfl | (simp only [stC, ze, reduceIte, Nat.reduceEqDiff, e3, encEv]; done) | (simp only [stC, ze, reduceIte, Nat.reduceEqDiff, e3, encEv]; rfl)) rfl rfl fun K' k' => ?_; simp only [zz, reduceIte, Nat.reduceEqDiff, Nat.reduceLT, Nat.reduceLeDiff, Nat.reduceAdd, reduceCtorEq, Nat.reduceMul, ok9, sz9, ag9, ok36, sz36, ag36, e3, encEv]; refine k' _ _ ?_; clear k' K')
      all_goals (refine D.g rfl trivial rfl rfl fun K' k' => ?_; simp only [zz, reduceIte, Nat.reduceEqDiff, Nat.reduceLT, Nat.reduceLeDiff, Nat.reduceAdd, reduceCtorEq, Nat.reduceMul, e3, encEv]; refine PCalls.eqto (clone_ev _ (by assumption)) ?_ <;> (refine k' _ _ ?_; clear k' K'))
      all_goals (refine D.g rfl trivial rfl rfl fun K' k' => ?_; simp only [zz, reduceIte, Nat.reduceEqDiff, Nat.reduceLT, Nat.reduceLeDiff, Nat.reduceAdd, reduceCtorEq, Nat.reduceMul, zt42, pl42, e3, encEv]; refine k' _ _ ?_; clear k' K')
      all_goals (refine D.g rfl trivial rfl rfl fun K' k' => ?_; simp only [zb, reduceIte, Nat.reduceEqDiff, Nat.reduceLT, Nat.reduceLeDiff, Nat.reduceAdd, reduceCtorEq, Nat.reduceMul, sl22, el22, ok42, sz42, ag42, zt42, by42, e3, encEv]; refine k' _ _ ?_; clear k' K')
      all_goals (refine D.g rfl trivial rfl rfl fun K' k' => ?_; simp only [zz, reduceIte, Nat.reduceEqDiff, Nat.reduceLT, Nat.reduceLeDiff, Nat.reduceAdd, reduceCtorEq, Nat.reduceMul, sl22, el22, ok42, sz42, ag42, zt42, by42, e3, encEv]; refine ⟨len_bd [a], by unfold maxLen; omega, by unfold reach; omega, fun k2 hk2 => ?_⟩ <;> (refine k' _ _ ?_; clear k' K'))
      all_goals (refine D.g rfl trivial rfl rfl fun K' k' => ?_; simp only [zz, reduceIte, Nat.reduceEqDiff, Nat.reduceAdd, e3, encEv]; refine k' _ _ ?_; clear k' K')
      all_goals refine D.nil ?_
      all_goals simp only [ze, reduceIte, Nat.reduceEqDiff, Nat.reduceLT, Nat.reduceLeDiff, Nat.reduceAdd, reduceCtorEq, Nat.reduceMul, e3, encEv]
      all_goals apply_assumption
      have hw : IntKind.i64.wrap (((0 : Nat) : Int) + 1) = ((0 + 1 : Nat) : Int) := by rw [wrap_small _ (by omega) (by omega)]; rfl
      all_goals refine AW.reg0 ?_
      all_goals iterate 2 (refine S.g rfl rfl fun K' k' => ?_; simp only [zz, reduceIte, Nat.reduceEqDiff, Nat.reduceAdd, e9, hw, e1, e2, e7, e8, l1, l2]; refine k' _ _ ?_; clear k' K')
      all_goals refine S.nil ?_
      all_goals simp only [ze, reduceIte, Nat.reduceEqDiff, Nat.reduceLT, Nat.reduceLeDiff, Nat.reduceAdd, reduceCtorEq, Nat.reduceMul, e9, hw, e1, e2, e7, e8, l1, l2]
      refine ⟨m - 1, by omega, 1, by omega, rfl, .inr ⟨k2, rfl, ?_⟩⟩
      rw [show l.take 1 = [] ++ [a] from htk]; rfl
    · have htl : (l.take i).length = i := by rw [List.length_take]; omega
      all_goals refine AW.draw (T := { sd := fun d => d == 5 }) (fun _ _ h => by cases h) mixedO [(0, 0), (1, 0), (3, 0), (2, 1), (4, 1), (5, 2), (6, 0), (7, 2), (8, 2), (9, 0)] rfl (by kernel_rfl) (by kernel_rfl) ?_
      all_goals iterate 3 (refine D.g rfl trivial rfl rfl fun K' k' => ?_; simp only [zz, reduceIte, Nat.reduceEqDiff, Nat.reduceLT, Nat.reduceLeDiff, Nat.reduceAdd, reduceCtorEq, Nat.reduceMul, of42_0, of42_1, e3, encEv, htl]; refine k' _ _ ?_; clear k' K')
      all_goals iterate 2 (refine D.g rfl (by first | rfl | (simp only [stC, ze, reduceIte, Nat.reduceEqDiff, e3, encEv, htl]; done) | (simp only [stC, ze, reduceIte, Nat.reduceEqDiff, e3, encEv, htl]; rfl)) rfl rfl fun K' k' => ?_; simp only [zz, reduceIte, Nat.reduceEqDiff, Nat.reduceLT, Nat.reduceLeDiff, Nat.reduceAdd, reduceCtorEq, Nat.reduceMul, ok9, sz9, ag9, ok36, sz36, ag36, e3, encEv, htl]; refine k' _ _ ?_; clear k' K')
      all_goals (refine D.g rfl trivial rfl rfl fun K' k' => ?_; simp only [zz, reduceIte, Nat.reduceEqDiff, Nat.reduceLT, Nat.reduceLeDiff, Nat.reduceAdd, reduceCtorEq, Nat.reduceMul, e3, encEv, htl]; refine PCalls.eqto (clone_ev _ (by assumption)) ?_ <;> (refine k' _ _ ?_; clear k' K'))
      all_goals (refine D.g rfl trivial rfl rfl fun K' k' => ?_; simp only [zz, reduceIte, Nat.reduceEqDiff, Nat.reduceLT, Nat.reduceLeDiff, Nat.reduceAdd, reduceCtorEq, Nat.reduceMul, zt42, pl42, e3, encEv, htl]; refine k' _ _ ?_; clear k' K')
      all_goals (refine D.g rfl trivial rfl rfl fun K' k' => ?_; simp only [zb, reduceIte, Nat.reduceEqDiff, Nat.reduceLT, Nat.reduceLeDiff, Nat.reduceAdd, reduceCtorEq, Nat.reduceMul, sl22, el22, ok42, sz42, ag42, zt42, by42, e3, encEv, htl]; refine k' _ _ ?_; clear k' K')
      all_goals (refine D.g rfl trivial rfl rfl fun K' k' => ?_; simp only [zz, reduceIte, Nat.reduceEqDiff, Nat.reduceLT, Nat.reduceLeDiff, Nat.reduceAdd, reduceCtorEq, Nat.reduceMul, sl22, el22, ok42, sz42, ag42, zt42, by42, e3, encEv, htl]; refine ⟨len_bd [a], by unfold maxLen; omega, by unfold reach; omega, fun k2 hk2 => ?_⟩ <;> (refine k' _ _ ?_; clear k' K'))
      all_goals (refine D.g rfl trivial rfl rfl fun K' k' => ?_; simp only [zz, reduceIte, Nat.reduceEqDiff, Nat.reduceAdd, e3, encEv, htl]; refine k' _ _ ?_; clear k' K')
      all_goals refine D.nil ?_
      all_goals simp only [ze, reduceIte, Nat.reduceEqDiff, Nat.reduceLT, Nat.reduceLeDiff, Nat.reduceAdd, reduceCtorEq, Nat.reduceMul, e3, encEv, htl]
      all_goals apply_assumption
      have hw : IntKind.i64.wrap ((i : Int) + 1) = ((i + 1 : Nat) : Int) := by rw [wrap_small _ (by omega) (by omega)]; rfl
      all_goals refine AW.reg0 ?_
      all_goals iterate 2 (refine S.g rfl rfl fun K' k' => ?_; simp only [zz, reduceIte, Nat.reduceEqDiff, Nat.reduceAdd, e9, hw, e1, e2, e7, e8, l1, l2]; refine k' _ _ ?_; clear k' K')
      all_goals refine S.nil ?_
      all_goals simp only [ze, reduceIte, Nat.reduceEqDiff, Nat.reduceLT, Nat.reduceLeDiff, Nat.reduceAdd, reduceCtorEq, Nat.reduceMul, e9, hw, e1, e2, e7, e8, l1, l2]
      refine ⟨m - 1, by omega, i + 1, by omega, rfl, .inr ⟨k2, rfl, ?_⟩⟩
      rw [htk, List.map_append]
      simp [encBd]
  · refine AW.exit ?_
    all_goals simp only [zs, reduceIte, Nat.reduceEqDiff, Nat.reduceLT, Nat.reduceLeDiff, Nat.reduceAdd, reduceCtorEq, Nat.reduceMul]
    -- EXIT 0
    -- BEHIND THE LOOP
    all_goals apply_assumption
    have hi : l.length ≤ i := by simpa using hc
    rcases hk with ⟨rfl, e3, rfl⟩ | ⟨k, e3, rfl⟩
    · have h0 : l = [] := List.eq_nil_of_length_eq_zero (by omega)
      refine AW.seq_k fun K9 h9 => ?_
      all_goals refine AW.reg0 ?_
      all_goals (refine S.g rfl rfl fun K' k' => ?_; simp only [zz, reduceIte, Nat.reduceEqDiff, Nat.reduceAdd, e3, e2, l2]; refine k' _ _ ?_; clear k' K')
      all_goals (refine S.g rfl rfl fun K' k' => ?_; simp only [zz, reduceIte, Nat.reduceEqDiff, Nat.reduceLT, Nat.reduceLeDiff, Nat.reduceAdd, reduceCtorEq, Nat.reduceMul, zt24, pl24, e3, e2, l2]; refine k' _ _ ?_; clear k' K')
      all_goals (refine S.g rfl rfl fun K' k' => ?_; simp only [zz, reduceIte, Nat.reduceEqDiff, Nat.reduceLT, Nat.reduceLeDiff, Nat.reduceAdd, reduceCtorEq, Nat.reduceMul, ok24, sz24, ag24, e3, e2, l2]; refine k' _ _ ?_; clear k' K')
      all_goals refine S.nil ?_
      all_goals simp only [ze, reduceIte, Nat.reduceEqDiff, Nat.reduceLT, Nat.reduceLeDiff, Nat.reduceAdd, reduceCtorEq, Nat.reduceMul, e3, e2, l2]
      all_goals apply_assumption
      refine AW.ret ?_
      all_goals simp only [zs, reduceIte, Nat.reduceEqDiff, Nat.reduceLT, Nat.reduceLeDiff, Nat.reduceAdd, reduceCtorEq, Nat.reduceMul, qLoad, ok24, sz24, ag24, cut, List.drop_zero, List.take_succ_cons, List.take_zero, e2, List.map, h0]
    · rw [List.take_of_length_le hi]
      refine AW.seq_k fun K10 h10 => ?_
      all_goals refine AW.reg0 ?_
      all_goals (refine S.g rfl rfl fun K' k' => ?_; simp only [zz, reduceIte, Nat.reduceEqDiff, Nat.reduceAdd, e3, e2, l2]; refine k' _ _ ?_; clear k' K')
      all_goals (refine S.g rfl rfl fun K' k' => ?_; simp only [zz, reduceIte, Nat.reduceEqDiff, Nat.reduceLT, Nat.reduceLeDiff, Nat.reduceAdd, reduceCtorEq, Nat.reduceMul, zt24, pl24, e3, e2, l2]; refine k' _ _ ?_; clear k' K')
      all_goals (refine S.g rfl rfl fun K' k' => ?_; simp only [zz, reduceIte, Nat.reduceEqDiff, Nat.reduceLT, Nat.reduceLeDiff, Nat.reduceAdd, reduceCtorEq, Nat.reduceMul, ok24, sz24, ag24, e3, e2, l2]; refine k' _ _ ?_; clear k' K')
      all_goals refine S.nil ?_
      all_goals simp only [ze, reduceIte, Nat.reduceEqDiff, Nat.reduceLT, Nat.reduceLeDiff, Nat.reduceAdd, reduceCtorEq, Nat.reduceMul, e3, e2, l2]
      all_goals apply_assumption
      refine AW.freeze (k := k) (T := (42, 6)) (es := l.map encBd) (by simp only [Hp.setGr_gr, if_true]) (AW.bare (AW.ret ?_))
      all_goals simp only [zs, reduceIte, Nat.reduceEqDiff, Nat.reduceLT, Nat.reduceLeDiff, Nat.reduceAdd, reduceCtorEq, Nat.reduceMul, qLoad, ok24, sz24, ag24, cut, List.drop_zero, List.take_succ_cons, List.take_zero, e2, fzV, fz1, St.fz_t, St.fz_l, Option.map_some, List.map]
end Go.Abs.M
namespace Go.Abs.M
open Go Go.Abs Go.Proofs
set_option maxRecDepth 20000
set_option linter.unusedSimpArgs false
set_option linter.unusedVariables false
theorem rtime_spec (n : Int) : PCalls Try.prog 109 [.c (.int .i64 n)] (fun r => r = .c (.bool (timeOk n))) := by
  refine PCalls.intro Try.call109 Try.func109 rfl Try.ntmps109 Try.results109 (by simp) ?_
  refine AW.seq_k fun K1 h1 => ?_
  all_goals refine AW.reg0 ?_
  all_goals (refine S.g rfl rfl fun K' k' => ?_; simp only [zz, reduceIte, Nat.reduceEqDiff, Nat.reduceAdd]; refine k' _ _ ?_; clear k' K')
  all_goals refine S.nil ?_
  all_goals simp only [ze, reduceIte, Nat.reduceEqDiff, Nat.reduceLT, Nat.reduceLeDiff, Nat.reduceAdd, reduceCtorEq, Nat.reduceMul]
  all_goals apply_assumption
  refine AW.seq_j (fun s' σ' => σ' = Hp.empty ∧ s'.t 2 = .c (.bool (timeOk n))) ?_ ?_
  · skip
    all_goals refine AW.reg0 ?_
    all_goals (refine S.g rfl rfl fun K' k' => ?_; simp only [zz, reduceIte, Nat.reduceEqDiff, Nat.reduceAdd]; refine k' _ _ ?_; clear k' K')
    all_goals (refine S.g rfl rfl fun K' k' => ?_; simp only [zz, reduceIte, Nat.reduceEqDiff, Nat.reduceLT, Nat.reduceLeDiff, Nat.reduceAdd, reduceCtorEq, Nat.reduceMul]; refine S.bool fun b a4 => ?_; cases b <;> (try (exfalso; first | exact Bool.noConfusion a4 | (have h := of_decide_eq_true a4; omega) | (have h := of_decide_eq_false a4; omega))) <;> (refine k' _ _ ?_; clear k' K'))
    all_goals (refine S.g rfl rfl fun K' k' => ?_; simp only [zz, reduceIte, Nat.reduceEqDiff, Nat.reduceAdd]; refine k' _ _ ?_; clear k' K')
    all_goals iterate 2 (first | (refine S.y rfl rfl rfl rfl fun K' k' => ?_; simp only [zz, reduceIte, Nat.reduceEqDiff, Nat.reduceAdd]; refine k' _ _ ?_; clear k' K') | ((first | refine S.x rfl rfl rfl rfl fun K' k' => ?_ | refine S.u rfl rfl rfl rfl fun K' k' => ?_); simp only [ze, reduceIte, Nat.reduceEqDiff]; refine k' _ _ ?_; clear k' K'))
    all_goals iterate 2 (refine S.g rfl rfl fun K' k' => ?_; simp only [zz, reduceIte, Nat.reduceEqDiff, Nat.reduceAdd]; refine k' _ _ ?_; clear k' K')
    all_goals refine S.nil ?_
    all_goals simp only [ze, reduceIte, Nat.reduceEqDiff, Nat.reduceLT, Nat.reduceLeDiff, Nat.reduceAdd, reduceCtorEq, Nat.reduceMul]
    all_goals (try simp only [beq_eq_false_iff_ne, decide_eq_true_eq, decide_eq_false_iff_not, beq_iff_eq, ne_eq, Bool.not_eq_true', Bool.not_eq_false', bne_iff_ne, bne_eq_false_iff_eq] at *)
    all_goals (try simp only [V.c.injEq, Value.bool.injEq, Value.int.injEq, true_and, timeOk])
    all_goals first | done | rfl | omega | ((rw [Bool.eq_iff_iff]; simp only [beq_eq_false_iff_ne, decide_eq_true_eq, decide_eq_false_iff_not, beq_iff_eq, ne_eq, Bool.not_eq_true', Bool.not_eq_false', bne_iff_ne, bne_eq_false_iff_eq, Bool.false_or, Bool.true_or, Bool.or_false, Bool.or_true, Bool.false_and, Bool.and_false, Bool.true_and, Bool.and_true, Bool.not_true, Bool.not_false, Bool.or_eq_false_iff, Bool.and_eq_false_iff, Bool.or_eq_true, Bool.and_eq_true, Bool.false_eq_true, Bool.true_eq_false, true_iff, iff_true, false_iff, iff_false]) <;> omega)
  rintro s σ ⟨rfl, e2⟩
  refine AW.ret ?_
  all_goals simp only [zs, reduceIte, Nat.reduceEqDiff, Nat.reduceLT, Nat.reduceLeDiff, Nat.reduceAdd, reduceCtorEq, Nat.reduceMul, e2]
theorem letter_spec (c : UInt8) : PCalls Try.prog 108 [.c (.int .u8 c.toNat)] (fun r => r = .c (.bool (letter c))) := by
  refine PCalls.intro Try.call108 Try.func108 rfl Try.ntmps108 Try.results108 (by simp) ?_
  refine AW.seq_k fun K1 h1 => ?_
  all_goals refine AW.reg0 ?_
  all_goals (refine S.g rfl rfl fun K' k' => ?_; simp only [zz, reduceIte, Nat.reduceEqDiff, Nat.reduceAdd]; refine k' _ _ ?_; clear k' K')
  all_goals refine S.nil ?_
  all_goals simp only [ze, reduceIte, Nat.reduceEqDiff, Nat.reduceLT, Nat.reduceLeDiff, Nat.reduceAdd, reduceCtorEq, Nat.reduceMul]
  all_goals apply_assumption
  refine AW.seq_j (fun s' σ' => σ' = Hp.empty ∧ s'.t 2 = .c (.bool (letter c))) ?_ ?_
  · skip
    all_goals refine AW.reg0 ?_
    all_goals (refine S.g rfl rfl fun K' k' => ?_; simp only [zz, reduceIte, Nat.reduceEqDiff, Nat.reduceAdd]; refine k' _ _ ?_; clear k' K')
    all_goals (refine S.g rfl rfl fun K' k' => ?_; simp only [zz, reduceIte, Nat.reduceEqDiff, Nat.reduceLT, Nat.reduceLeDiff, Nat.reduceAdd, reduceCtorEq, Nat.reduceMul]; refine S.bool fun b a4 => ?_; cases b <;> (try (exfalso; first | exact Bool.noConfusion a4 | (have h := of_decide_eq_true a4; omega) | (have h := of_decide_eq_false a4; omega))) <;> (refine k' _ _ ?_; clear k' K'))
    all_goals (refine S.g rfl rfl fun K' k' => ?_; simp only [zz, reduceIte, Nat.reduceEqDiff, Nat.reduceAdd]; refine k' _ _ ?_; clear k' K')
    all_goals (first | (refine S.y rfl rfl rfl rfl fun K' k' => ?_; simp only [zz, reduceIte, Nat.reduceEqDiff, Nat.reduceAdd]; refine k' _ _ ?_; clear k' K') | ((first | refine S.x rfl rfl rfl rfl fun K' k' => ?_ | refine S.u rfl rfl rfl rfl fun K' k' => ?_); simp only [ze, reduceIte, Nat.reduceEqDiff]; refine k' _ _ ?_; clear k' K'))
    all_goals (first | (refine S.y rfl rfl rfl rfl fun K' k' => ?_; simp only [zz, reduceIte, Nat.reduceEqDiff, Nat.reduceLT, Nat.reduceLeDiff, Nat.reduceAdd, reduceCtorEq, Nat.reduceMul]; refine S.bool fun b a7 => ?_; cases b <;> (try (exfalso; first | exact Bool.noConfusion a7 | (have h := of_decide_eq_true a7; omega) | (have h := of_decide_eq_false a7; omega))) <;> (refine k' _ _ ?_; clear k' K')) | ((first | refine S.x rfl rfl rfl rfl fun K' k' => ?_ | refine S.u rfl rfl rfl rfl fun K' k' => ?_); simp only [ze, reduceIte, Nat.reduceEqDiff]; refine k' _ _ ?_; clear k' K'))
    all_goals iterate 2 (refine S.g rfl rfl fun K' k' => ?_; simp only [zz, reduceIte, Nat.reduceEqDiff, Nat.reduceAdd]; refine k' _ _ ?_; clear k' K')
    all_goals (first | (refine S.y rfl rfl rfl rfl fun K' k' => ?_; simp only [zz, reduceIte, Nat.reduceEqDiff, Nat.reduceAdd]; refine k' _ _ ?_; clear k' K') | ((first | refine S.x rfl rfl rfl rfl fun K' k' => ?_ | refine S.u rfl rfl rfl rfl fun K' k' => ?_); simp only [ze, reduceIte, Nat.reduceEqDiff]; refine k' _ _ ?_; clear k' K'))
    all_goals (first | (refine S.y rfl rfl rfl rfl fun K' k' => ?_; simp only [zz, reduceIte, Nat.reduceEqDiff, Nat.reduceLT, Nat.reduceLeDiff, Nat.reduceAdd, reduceCtorEq, Nat.reduceMul]; refine S.bool fun b a11 => ?_; cases b <;> (try (exfalso; first | exact Bool.noConfusion a11 | (have h := of_decide_eq_true a11; omega) | (have h := of_decide_eq_false a11; omega))) <;> (refine k' _ _ ?_; clear k' K')) | ((first | refine S.x rfl rfl rfl rfl fun K' k' => ?_ | refine S.u rfl rfl rfl rfl fun K' k' => ?_); simp only [ze, reduceIte, Nat.reduceEqDiff]; refine k' _ _ ?_; clear k' K'))
    all_goals iterate 2 (first | (refine S.y rfl rfl rfl rfl fun K' k' => ?_; simp only [zz, reduceIte, Nat.reduceEqDiff, Nat.reduceAdd]; refine k' _ _ ?_; clear k' K') | ((first | refine S.x rfl rfl rfl rfl fun K' k' => ?_ | refine S.u rfl rfl rfl rfl fun K' k' => ?_); simp only [ze, reduceIte, Nat.reduceEqDiff]; refine k' _ _ ?_; clear k' K'))
    all_goals (first | (refine S.y rfl rfl rfl rfl fun K' k' => ?_; simp only [zz, reduceIte, Nat.reduceEqDiff, Nat.reduceLT, Nat.reduceLeDiff, Nat.reduceAdd, reduceCtorEq, Nat.reduceMul]; refine S.bool fun b a14 => ?_; cases b <;> (try (exfalso; first | exact Bool.noConfusion a14 | (have h := of_decide_eq_true a14; omega) | (have h := of_decide_eq_false a14; omega))) <;> (refine k' _ _ ?_; clear k' K')) | ((first | refine S.x rfl rfl rfl rfl fun K' k' => ?_ | refine S.u rfl rfl rfl rfl fun K' k' => ?_); simp only [ze, reduceIte, Nat.reduceEqDiff]; refine k' _ _ ?_; clear k' K'))
    all_goals (first | (refine S.y rfl rfl rfl rfl fun K' k' => ?_; simp only [zz, reduceIte, Nat.reduceEqDiff, Nat.reduceAdd]; refine k' _ _ ?_; clear k' K') | ((first | refine S.x rfl rfl rfl rfl fun K' k' => ?_ | refine S.u rfl rfl rfl rfl fun K' k' => ?_); simp only [ze, reduceIte, Nat.reduceEqDiff]; refine k' _ _ ?_; clear k' K'))
    all_goals iterate 2 (refine S.g rfl rfl fun K' k' => ?_; simp only [zz, reduceIte, Nat.reduceEqDiff, Nat.reduceAdd]; refine k' _ _ ?_; clear k' K')
    all_goals iterate 2 (first | (refine S.y rfl rfl rfl rfl fun K' k' => ?_; simp only [zz, reduceIte, Nat.reduceEqDiff, Nat.reduceAdd]; refine k' _ _ ?_; clear k' K') | ((first | refine S.x rfl rfl rfl rfl fun K' k' => ?_ | refine S.u rfl rfl rfl rfl fun K' k' => ?_); simp only [ze, reduceIte, Nat.reduceEqDiff]; refine k' _ _ ?_; clear k' K'))
    all_goals iterate 2 (refine S.g rfl rfl fun K' k' => ?_; simp only [zz, reduceIte, Nat.reduceEqDiff, Nat.reduceAdd]; refine k' _ _ ?_; clear k' K')
    all_goals refine S.nil ?_
    all_goals simp only [ze, reduceIte, Nat.reduceEqDiff, Nat.reduceLT, Nat.reduceLeDiff, Nat.reduceAdd, reduceCtorEq, Nat.reduceMul]
    all_goals (try simp only [beq_eq_false_iff_ne, decide_eq_true_eq, decide_eq_false_iff_not, beq_iff_eq, ne_eq, Bool.not_eq_true', Bool.not_eq_false', bne_iff_ne, bne_eq_false_iff_eq] at *)
    all_goals (try simp only [V.c.injEq, Value.bool.injEq, Value.int.injEq, true_and, letter])
    all_goals first | done | rfl | omega | ((rw [Bool.eq_iff_iff]; simp only [beq_eq_false_iff_ne, decide_eq_true_eq, decide_eq_false_iff_not, beq_iff_eq, ne_eq, Bool.not_eq_true', Bool.not_eq_false', bne_iff_ne, bne_eq_false_iff_eq, Bool.false_or, Bool.true_or, Bool.or_false, Bool.or_true, Bool.false_and, Bool.and_false, Bool.true_and, Bool.and_true, Bool.not_true, Bool.not_false, Bool.or_eq_false_iff, Bool.and_eq_false_iff, Bool.or_eq_true, Bool.and_eq_true, Bool.false_eq_true, Bool.true_eq_false, true_iff, iff_true, false_iff, iff_false]) <;> omega)
  rintro s σ ⟨rfl, e2⟩
  refine AW.ret ?_
  all_goals simp only [zs, reduceIte, Nat.reduceEqDiff, Nat.reduceLT, Nat.reduceLeDiff, Nat.reduceAdd, reduceCtorEq, Nat.reduceMul, e2]
theorem rcheck_val (v : Val) : PCalls Try.prog 131 [.agg (encVal v)] (fun r => r = .c (.int .i64 (valErr v))) := by
  refine PCalls.intro Try.call131 Try.func131 rfl Try.ntmps131 Try.results131 (by simp) ?_
  refine AW.seq_k fun K1 h1 => ?_
  all_goals refine AW.reg0 ?_
  all_goals iterate 2 (refine S.g rfl rfl fun K' k' => ?_; simp only [zz, reduceIte, Nat.reduceEqDiff, Nat.reduceLT, Nat.reduceLeDiff, Nat.reduceAdd, reduceCtorEq, Nat.reduceMul, ok141, sz141, ag141, encVal]; refine k' _ _ ?_; clear k' K')
  all_goals refine S.nil ?_
  all_goals simp only [ze, reduceIte, Nat.reduceEqDiff, Nat.reduceLT, Nat.reduceLeDiff, Nat.reduceAdd, reduceCtorEq, Nat.reduceMul, encVal]
  all_goals apply_assumption
  refine AW.seq_k fun K2 h2 => ?_
  refine AW.seq_j (fun s' σ' => σ' = Hp.empty ∧ s'.t 26 = .c (.bool (valOk v))) ?_ ?_
  · skip
    all_goals refine AW.reg0 ?_
    all_goals iterate 2 (refine S.g rfl rfl fun K' k' => ?_; simp only [zz, reduceIte, Nat.reduceEqDiff, Nat.reduceLT, Nat.reduceLeDiff, Nat.reduceAdd, reduceCtorEq, Nat.reduceMul, of141_0, ok3, sz3, ag3]; refine k' _ _ ?_; clear k' K')
    all_goals (refine S.g rfl rfl fun K' k' => ?_; simp only [zz, reduceIte, Nat.reduceEqDiff, Nat.reduceLT, Nat.reduceLeDiff, Nat.reduceAdd, reduceCtorEq, Nat.reduceMul]; refine S.bool fun b a5 => ?_; cases b <;> (try (exfalso; first | exact Bool.noConfusion a5 | (have h := of_decide_eq_true a5; omega) | (have h := of_decide_eq_false a5; omega))) <;> (refine k' _ _ ?_; clear k' K'))
    all_goals (refine S.g rfl rfl fun K' k' => ?_; simp only [zz, reduceIte, Nat.reduceEqDiff, Nat.reduceAdd]; refine k' _ _ ?_; clear k' K')
    all_goals iterate 2 (first | (refine S.y rfl rfl rfl rfl fun K' k' => ?_; simp only [zz, reduceIte, Nat.reduceEqDiff, Nat.reduceLT, Nat.reduceLeDiff, Nat.reduceAdd, reduceCtorEq, Nat.reduceMul, of141_2, ok9, sz9, ag9]; refine k' _ _ ?_; clear k' K') | ((first | refine S.x rfl rfl rfl rfl fun K' k' => ?_ | refine S.u rfl rfl rfl rfl fun K' k' => ?_); simp only [ze, reduceIte, Nat.reduceEqDiff]; refine k' _ _ ?_; clear k' K'))
    all_goals (first | (refine S.y rfl rfl rfl rfl fun K' k' => ?_; simp only [zz, reduceIte, Nat.reduceEqDiff, Nat.reduceLT, Nat.reduceLeDiff, Nat.reduceAdd, reduceCtorEq, Nat.reduceMul]; refine S.bool fun b a9 => ?_; cases b <;> (try (exfalso; first | exact Bool.noConfusion a9 | (have h := of_decide_eq_true a9; omega) | (have h := of_decide_eq_false a9; omega))) <;> (refine k' _ _ ?_; clear k' K')) | ((first | refine S.x rfl rfl rfl rfl fun K' k' => ?_ | refine S.u rfl rfl rfl rfl fun K' k' => ?_); simp only [ze, reduceIte, Nat.reduceEqDiff]; refine k' _ _ ?_; clear k' K'))
    all_goals iterate 2 (refine S.g rfl rfl fun K' k' => ?_; simp only [zz, reduceIte, Nat.reduceEqDiff, Nat.reduceAdd]; refine k' _ _ ?_; clear k' K')
    all_goals iterate 2 (first | (refine S.y rfl rfl rfl rfl fun K' k' => ?_; simp only [zz, reduceIte, Nat.reduceEqDiff, Nat.reduceLT, Nat.reduceLeDiff, Nat.reduceAdd, reduceCtorEq, Nat.reduceMul, of141_0, ok3, sz3, ag3]; refine k' _ _ ?_; clear k' K') | ((first | refine S.x rfl rfl rfl rfl fun K' k' => ?_ | refine S.u rfl rfl rfl rfl fun K' k' => ?_); simp only [ze, reduceIte, Nat.reduceEqDiff]; refine k' _ _ ?_; clear k' K'))
    all_goals (first | (refine S.y rfl rfl rfl rfl fun K' k' => ?_; simp only [zz, reduceIte, Nat.reduceEqDiff, Nat.reduceLT, Nat.reduceLeDiff, Nat.reduceAdd, reduceCtorEq, Nat.reduceMul]; refine S.bool fun b a14 => ?_; cases b <;> (try (exfalso; first | exact Bool.noConfusion a14 | (have h := of_decide_eq_true a14; omega) | (have h := of_decide_eq_false a14; omega))) <;> (refine k' _ _ ?_; clear k' K')) | ((first | refine S.x rfl rfl rfl rfl fun K' k' => ?_ | refine S.u rfl rfl rfl rfl fun K' k' => ?_); simp only [ze, reduceIte, Nat.reduceEqDiff]; refine k' _ _ ?_; clear k' K'))
    all_goals iterate 3 (first | (refine S.y rfl rfl rfl rfl fun K' k' => ?_; simp only [zz, reduceIte, Nat.reduceEqDiff, Nat.reduceLT, Nat.reduceLeDiff, Nat.reduceAdd, reduceCtorEq, Nat.reduceMul, of141_1, ok2, sz2, ag2]; refine k' _ _ ?_; clear k' K') | ((first | refine S.x rfl rfl rfl rfl fun K' k' => ?_ | refine S.u rfl rfl rfl rfl fun K' k' => ?_); simp only [ze, reduceIte, Nat.reduceEqDiff]; refine k' _ _ ?_; clear k' K'))
    all_goals (first | (refine S.y rfl rfl rfl rfl fun K' k' => ?_; simp only [zz, reduceIte, Nat.reduceEqDiff, Nat.reduceLT, Nat.reduceLeDiff, Nat.reduceAdd, reduceCtorEq, Nat.reduceMul]; refine S.bool fun b a18 => ?_; cases b <;> (try (exfalso; first | exact Bool.noConfusion a18 | (have h := of_decide_eq_true a18; omega) | (have h := of_decide_eq_false a18; omega))) <;> (refine k' _ _ ?_; clear k' K')) | ((first | refine S.x rfl rfl rfl rfl fun K' k' => ?_ | refine S.u rfl rfl rfl rfl fun K' k' => ?_); simp only [ze, reduceIte, Nat.reduceEqDiff]; refine k' _ _ ?_; clear k' K'))
    all_goals iterate 7 (first | (refine S.y rfl rfl rfl rfl fun K' k' => ?_; simp only [zz, reduceIte, Nat.reduceEqDiff, Nat.reduceLT, Nat.reduceLeDiff, Nat.reduceAdd, reduceCtorEq, Nat.reduceMul, of141_2, ok9, sz9, ag9, st9]; refine k' _ _ ?_; clear k' K') | ((first | refine S.x rfl rfl rfl rfl fun K' k' => ?_ | refine S.u rfl rfl rfl rfl fun K' k' => ?_); simp only [ze, reduceIte, Nat.reduceEqDiff]; refine k' _ _ ?_; clear k' K'))
    all_goals (refine S.g rfl rfl fun K' k' => ?_; simp only [zz, reduceIte, Nat.reduceEqDiff, Nat.reduceAdd]; refine k' _ _ ?_; clear k' K')
    all_goals refine S.nil ?_
    all_goals simp only [ze, reduceIte, Nat.reduceEqDiff, Nat.reduceLT, Nat.reduceLeDiff, Nat.reduceAdd, reduceCtorEq, Nat.reduceMul]
    all_goals (try simp only [beq_eq_false_iff_ne, decide_eq_true_eq, decide_eq_false_iff_not, beq_iff_eq, ne_eq, Bool.not_eq_true', Bool.not_eq_false', bne_iff_ne, bne_eq_false_iff_eq] at *)
    all_goals (try simp only [V.c.injEq, Value.bool.injEq, Value.int.injEq, true_and, valOk])
    all_goals first | done | rfl | omega | ((rw [Bool.eq_iff_iff]; simp only [beq_eq_false_iff_ne, decide_eq_true_eq, decide_eq_false_iff_not, beq_iff_eq, ne_eq, Bool.not_eq_true', Bool.not_eq_false', bne_iff_ne, bne_eq_false_iff_eq, Bool.false_or, Bool.true_or, Bool.or_false, Bool.or_true, Bool.false_and, Bool.and_false, Bool.true_and, Bool.and_true, Bool.not_true, Bool.not_false, Bool.or_eq_false_iff, Bool.and_eq_false_iff, Bool.or_eq_true, Bool.and_eq_true, Bool.false_eq_true, Bool.true_eq_false, true_iff, iff_true, false_iff, iff_false]) <;> omega)
  rintro s σ ⟨rfl, e26⟩
  refine AW.cond (b := valOk v) e26 (fun hc => ?_) (fun hc => AW.skip ?_)
  · refine AW.seq_k fun K3 h3 => ?_
    all_goals refine AW.reg0 ?_
    all_goals (refine S.g rfl rfl fun K' k' => ?_; simp only [zz, reduceIte, Nat.reduceEqDiff, Nat.reduceAdd]; refine k' _ _ ?_; clear k' K')
    all_goals refine S.nil ?_
    all_goals simp only [ze, reduceIte, Nat.reduceEqDiff, Nat.reduceLT, Nat.reduceLeDiff, Nat.reduceAdd, reduceCtorEq, Nat.reduceMul]
    all_goals apply_assumption
    refine AW.ret ?_
    all_goals simp only [zs, reduceIte, Nat.reduceEqDiff, Nat.reduceLT, Nat.reduceLeDiff, Nat.reduceAdd, reduceCtorEq, Nat.reduceMul]
    simp [valErr, hc]
  · all_goals simp only [zs, reduceIte, Nat.reduceEqDiff, Nat.reduceLT, Nat.reduceLeDiff, Nat.reduceAdd, reduceCtorEq, Nat.reduceMul]
    all_goals apply_assumption
    refine AW.seq_k fun K4 h4 => ?_
    all_goals refine AW.reg0 ?_
    all_goals (refine S.g rfl rfl fun K' k' => ?_; simp only [zz, reduceIte, Nat.reduceEqDiff, Nat.reduceAdd]; refine k' _ _ ?_; clear k' K')
    all_goals refine S.nil ?_
    all_goals simp only [ze, reduceIte, Nat.reduceEqDiff, Nat.reduceLT, Nat.reduceLeDiff, Nat.reduceAdd, reduceCtorEq, Nat.reduceMul]
    all_goals apply_assumption
    refine AW.ret ?_
    all_goals simp only [zs, reduceIte, Nat.reduceEqDiff, Nat.reduceLT, Nat.reduceLeDiff, Nat.reduceAdd, reduceCtorEq, Nat.reduceMul]
    simp [valErr, hc]
theorem rname_spec (str : ByteArray) (hn : str.size < 4611686018427387904) : PCalls Try.prog 71 [.c (.string str)] (fun v => v = .c (.bool (isName str))) := by
  refine PCalls.intro Try.call71 Try.func71 rfl Try.ntmps71 Try.results71 (by simp) ?_
  refine AW.seq_k fun K1 h1 => ?_
  all_goals refine AW.reg0 ?_
  all_goals (refine S.g rfl rfl fun K' k' => ?_; simp only [zz, reduceIte, Nat.reduceEqDiff, Nat.reduceAdd]; refine k' _ _ ?_; clear k' K')
  all_goals refine S.nil ?_
  all_goals simp only [ze, reduceIte, Nat.reduceEqDiff, Nat.reduceLT, Nat.reduceLeDiff, Nat.reduceAdd, reduceCtorEq, Nat.reduceMul]
  all_goals apply_assumption
  refine AW.seq_k fun K2 h2 => ?_
  refine AW.seq_j (fun s' σ' => σ' = Hp.empty ∧ s'.t 0 = .c (.string str) ∧ s'.t 10 = .c (.bool (decide (str.size = 0 ∨ 32 < str.size)))) ?_ ?_
  · skip
    all_goals refine AW.reg0 ?_
    all_goals (refine S.g rfl rfl fun K' k' => ?_; simp only [zz, reduceIte, Nat.reduceEqDiff, Nat.reduceAdd]; refine k' _ _ ?_; clear k' K')
    all_goals (refine S.g rfl rfl fun K' k' => ?_; simp only [zz, reduceIte, Nat.reduceEqDiff, Nat.reduceLT, Nat.reduceLeDiff, Nat.reduceAdd, reduceCtorEq, Nat.reduceMul]; refine S.bool fun b a5 => ?_; cases b <;> (try (exfalso; first | exact Bool.noConfusion a5 | (have h := of_decide_eq_true a5; omega) | (have h := of_decide_eq_false a5; omega))) <;> (refine k' _ _ ?_; clear k' K'))
    all_goals (refine S.g rfl rfl fun K' k' => ?_; simp only [zz, reduceIte, Nat.reduceEqDiff, Nat.reduceAdd]; refine k' _ _ ?_; clear k' K')
    all_goals iterate 3 (first | (refine S.y rfl rfl rfl rfl fun K' k' => ?_; simp only [zz, reduceIte, Nat.reduceEqDiff, Nat.reduceLT, Nat.reduceLeDiff, Nat.reduceAdd, reduceCtorEq, Nat.reduceMul, st9]; refine k' _ _ ?_; clear k' K') | ((first | refine S.x rfl rfl rfl rfl fun K' k' => ?_ | refine S.u rfl rfl rfl rfl fun K' k' => ?_); simp only [ze, reduceIte, Nat.reduceEqDiff]; refine k' _ _ ?_; clear k' K'))
    all_goals (refine S.g rfl rfl fun K' k' => ?_; simp only [zz, reduceIte, Nat.reduceEqDiff, Nat.reduceAdd]; refine k' _ _ ?_; clear k' K')
    all_goals refine S.nil ?_
    all_goals simp only [ze, reduceIte, Nat.reduceEqDiff, Nat.reduceLT, Nat.reduceLeDiff, Nat.reduceAdd, reduceCtorEq, Nat.reduceMul]
    all_goals (try simp only [beq_eq_false_iff_ne, decide_eq_true_eq, decide_eq_false_iff_not, beq_iff_eq, ne_eq, Bool.not_eq_true', Bool.not_eq_false', bne_iff_ne, bne_eq_false_iff_eq] at *)
    all_goals (try simp only [V.c.injEq, Value.bool.injEq, Value.int.injEq, true_and])
    all_goals first | done | rfl | omega | ((rw [Bool.eq_iff_iff]; simp only [beq_eq_false_iff_ne, decide_eq_true_eq, decide_eq_false_iff_not, beq_iff_eq, ne_eq, Bool.not_eq_true', Bool.not_eq_false', bne_iff_ne, bne_eq_false_iff_eq, Bool.false_or, Bool.true_or, Bool.or_false, Bool.or_true, Bool.false_and, Bool.and_false, Bool.true_and, Bool.and_true, Bool.not_true, Bool.not_false, Bool.or_eq_false_iff, Bool.and_eq_false_iff, Bool.or_eq_true, Bool.and_eq_true, Bool.false_eq_true, Bool.true_eq_false, true_iff, iff_true, false_iff, iff_false]) <;> omega)
  rintro s σ ⟨rfl, e0, e10⟩
  refine AW.cond (b := _) e10 (fun hc => ?_) (fun hc => ?_)
  · refine AW.seq_k fun K3 h3 => ?_
    all_goals refine AW.reg0 ?_
    all_goals (refine S.g rfl rfl fun K' k' => ?_; simp only [zz, reduceIte, Nat.reduceEqDiff, Nat.reduceAdd]; refine k' _ _ ?_; clear k' K')
    all_goals refine S.nil ?_
    all_goals simp only [ze, reduceIte, Nat.reduceEqDiff, Nat.reduceLT, Nat.reduceLeDiff, Nat.reduceAdd, reduceCtorEq, Nat.reduceMul]
    all_goals apply_assumption
    refine AW.ret ?_
    all_goals simp only [zs, reduceIte, Nat.reduceEqDiff, Nat.reduceLT, Nat.reduceLeDiff, Nat.reduceAdd, reduceCtorEq, Nat.reduceMul]
    have hx := of_decide_eq_true hc
    rcases hx with hx | hx
    · simp [isName, hx]
    · have : decide (str.size ≤ 32) = false := by rw [decide_eq_false_iff_not]; omega
      simp [isName, this]
  · refine AW.skip ?_
    have hx := of_decide_eq_false hc
    have hx0 : ¬ str.size = 0 := fun e => hx (.inl e)
    have hx1 : str.size ≤ 32 := by omega
    all_goals simp only [zs, reduceIte, Nat.reduceEqDiff, Nat.reduceLT, Nat.reduceLeDiff, Nat.reduceAdd, reduceCtorEq, Nat.reduceMul]
    all_goals apply_assumption
    refine AW.seq_k fun K4 h4 => ?_
    refine AW.seq_k fun K5 h5 => ?_
    all_goals refine AW.reg0 ?_
    all_goals (refine S.g rfl rfl fun K' k' => ?_; simp only [zz, reduceIte, Nat.reduceEqDiff, Nat.reduceAdd]; refine k' _ _ ?_; clear k' K')
    all_goals refine S.nil ?_
    all_goals simp only [ze, reduceIte, Nat.reduceEqDiff, Nat.reduceLT, Nat.reduceLeDiff, Nat.reduceAdd, reduceCtorEq, Nat.reduceMul]
    all_goals apply_assumption
    refine AW.block ?_   -- 0
    refine AW.loop (fun m s σ => σ = Hp.empty ∧ ∃ i : Nat, m + i = str.size ∧ s.t 0 = .c (.string str) ∧ s.t 3 = .c (.int .i64 i) ∧ nameL 0 str.data.toList = nameL i (str.data.toList.drop i)) str.size ?_ ?_
    · refine ⟨rfl, 0, by simp, ?_⟩
      all_goals simp only [zs, reduceIte, Nat.reduceEqDiff, Nat.reduceLT, Nat.reduceLeDiff, Nat.reduceAdd, reduceCtorEq, Nat.reduceMul]
      exact ⟨e0, by simp, by simp⟩
    rintro m s σ ⟨rfl, i, hm, e0, e3, hp⟩
    refine AW.seq_k fun K6 h6 => ?_
    refine AW.seq_k fun K7 h7 => ?_
    all_goals refine AW.reg0 ?_
    all_goals iterate 4 (refine S.g rfl rfl fun K' k' => ?_; simp only [zz, reduceIte, Nat.reduceEqDiff, Nat.reduceLT, Nat.reduceLeDiff, Nat.reduceAdd, reduceCtorEq, Nat.reduceMul, st9, e0, e3]; refine k' _ _ ?_; clear k' K')
    all_goals refine S.nil ?_
    all_goals simp only [ze, reduceIte, Nat.reduceEqDiff, Nat.reduceLT, Nat.reduceLeDiff, Nat.reduceAdd, reduceCtorEq, Nat.reduceMul, e0, e3]
    all_goals apply_assumption
    refine AW.cond (b := decide (i < str.size)) (by simp [ev]) (fun hc => ?_) (fun hc => ?_)
    · refine AW.skip ?_
      all_goals simp only [zs, reduceIte, Nat.reduceEqDiff, Nat.reduceLT, Nat.reduceLeDiff, Nat.reduceAdd, reduceCtorEq, Nat.reduceMul]
      all_goals apply_assumption
      have hi : i < str.size := by simpa using hc
      have hil : i < str.data.toList.length := by rw [Array.length_toList]; exact hi
      have hgd : str.data.getD i 0 = str.data.toList[i] := by
        have h2 : i < str.data.size := hi
        unfold Array.getD; rw [dif_pos h2]; simp
      generalize hcc : str.data.toList[i] = c at hgd
      have hd : str.data.toList.drop i = c :: str.data.toList.drop (i + 1) := by rw [← hcc]; exact List.drop_eq_getElem_cons hil
      refine AW.seq_k fun K8 h8 => ?_
      refine AW.block ?_   -- 1
      refine AW.seq_j (fun s' σ' => σ' = Hp.empty ∧ s'.t 0 = .c (.string str) ∧ s'.t 3 = .c (.int .i64 i) ∧ s'.t 37 = .c (.bool (!nameC i c))) ?_ ?_
      · clear hp hd
        all_goals refine AW.reg0 ?_
        all_goals iterate 3 (refine S.g rfl rfl fun K' k' => ?_; simp only [zz, reduceIte, Nat.reduceEqDiff, Nat.reduceLT, Nat.reduceLeDiff, Nat.reduceAdd, reduceCtorEq, Nat.reduceMul, st9, e0, e3, hi, hgd]; refine k' _ _ ?_; clear k' K')
        all_goals (refine S.g rfl rfl fun K' k' => ?_; simp only [zz, reduceIte, Nat.reduceEqDiff, Nat.reduceLT, Nat.reduceLeDiff, Nat.reduceAdd, reduceCtorEq, Nat.reduceMul, e0, e3, hi, hgd]; refine PCalls.eqto (letter_spec _) ?_; refine S.bool fun b a20 => ?_; cases b <;> (try (exfalso; first | exact Bool.noConfusion a20 | (have h := of_decide_eq_true a20; omega) | (have h := of_decide_eq_false a20; omega))) <;> (refine k' _ _ ?_; clear k' K'))
        all_goals iterate 2 (refine S.g rfl rfl fun K' k' => ?_; simp only [zz, reduceIte, Nat.reduceEqDiff, Nat.reduceAdd, e0, e3, hi, hgd]; refine k' _ _ ?_; clear k' K')
        all_goals (first | (refine S.y rfl rfl rfl rfl fun K' k' => ?_; simp only [zz, reduceIte, Nat.reduceEqDiff, Nat.reduceAdd, e0, e3, hi, hgd]; refine k' _ _ ?_; clear k' K') | ((first | refine S.x rfl rfl rfl rfl fun K' k' => ?_ | refine S.u rfl rfl rfl rfl fun K' k' => ?_); simp only [ze, reduceIte, Nat.reduceEqDiff]; refine k' _ _ ?_; clear k' K'))
        all_goals (first | (refine S.y rfl rfl rfl rfl fun K' k' => ?_; simp only [zz, reduceIte, Nat.reduceEqDiff, Nat.reduceLT, Nat.reduceLeDiff, Nat.reduceAdd, reduceCtorEq, Nat.reduceMul, e0, e3, hi, hgd]; refine S.bool fun b a24 => ?_; cases b <;> (try (exfalso; first | exact Bool.noConfusion a24 | (have h := of_decide_eq_true a24; omega) | (have h := of_decide_eq_false a24; omega))) <;> (refine k' _ _ ?_; clear k' K')) | ((first | refine S.x rfl rfl rfl rfl fun K' k' => ?_ | refine S.u rfl rfl rfl rfl fun K' k' => ?_); simp only [ze, reduceIte, Nat.reduceEqDiff]; refine k' _ _ ?_; clear k' K'))
        all_goals iterate 4 (first | (refine S.y rfl rfl rfl rfl fun K' k' => ?_; simp only [zz, reduceIte, Nat.reduceEqDiff, Nat.reduceLT, Nat.reduceLeDiff, Nat.reduceAdd, reduceCtorEq, Nat.reduceMul, st9, e0, e3, hi, hgd]; refine k' _ _ ?_; clear k' K') | ((first | refine S.x rfl rfl rfl rfl fun K' k' => ?_ | refine S.u rfl rfl rfl rfl fun K' k' => ?_); simp only [ze, reduceIte, Nat.reduceEqDiff]; refine k' _ _ ?_; clear k' K'))
        all_goals (first | (refine S.y rfl rfl rfl rfl fun K' k' => ?_; simp only [zz, reduceIte, Nat.reduceEqDiff, Nat.reduceLT, Nat.reduceLeDiff, Nat.reduceAdd, reduceCtorEq, Nat.reduceMul, e0, e3, hi, hgd]; refine S.bool fun b a29 => ?_; cases b <;> (try (exfalso; first | exact Bool.noConfusion a29 | (have h := of_decide_eq_true a29; omega) | (have h := of_decide_eq_false a29; omega))) <;> (refine k' _ _ ?_; clear k' K')) | ((first | refine S.x rfl rfl rfl rfl fun K' k' => ?_ | refine S.u rfl rfl rfl rfl fun K' k' => ?_); simp only [ze, reduceIte, Nat.reduceEqDiff]; refine k' _ _ ?_; clear k' K'))
        all_goals iterate 7 (first | (refine S.y rfl rfl rfl rfl fun K' k' => ?_; simp only [zz, reduceIte, Nat.reduceEqDiff, Nat.reduceLT, Nat.reduceLeDiff, Nat.reduceAdd, reduceCtorEq, Nat.reduceMul, st9, e0, e3, hi, hgd]; refine k' _ _ ?_; clear k' K') | ((first | refine S.x rfl rfl rfl rfl fun K' k' => ?_ | refine S.u rfl rfl rfl rfl fun K' k' => ?_); simp only [ze, reduceIte, Nat.reduceEqDiff]; refine k' _ _ ?_; clear k' K'))
        all_goals (refine S.g rfl rfl fun K' k' => ?_; simp only [zz, reduceIte, Nat.reduceEqDiff, Nat.reduceAdd, e0, e3, hi, hgd]; refine k' _ _ ?_; clear k' K')
        all_goals refine S.nil ?_
        all_goals simp only [ze, reduceIte, Nat.reduceEqDiff, Nat.reduceLT, Nat.reduceLeDiff, Nat.reduceAdd, reduceCtorEq, Nat.reduceMul, e0, e3, hi, hgd]
        all_goals (try simp only [beq_eq_false_iff_ne, decide_eq_true_eq, decide_eq_false_iff_not, beq_iff_eq, ne_eq, Bool.not_eq_true', Bool.not_eq_false', bne_iff_ne, bne_eq_false_iff_eq] at *)
        all_goals (try simp only [V.c.injEq, Value.bool.injEq, Value.int.injEq, true_and, nameC, a20])
        all_goals first | done | rfl | omega | ((rw [Bool.eq_iff_iff]; simp only [beq_eq_false_iff_ne, decide_eq_true_eq, decide_eq_false_iff_not, beq_iff_eq, ne_eq, Bool.not_eq_true', Bool.not_eq_false', bne_iff_ne, bne_eq_false_iff_eq, Bool.false_or, Bool.true_or, Bool.or_false, Bool.or_true, Bool.false_and, Bool.and_false, Bool.true_and, Bool.and_true, Bool.not_true, Bool.not_false, Bool.or_eq_false_iff, Bool.and_eq_false_iff, Bool.or_eq_true, Bool.and_eq_true, Bool.false_eq_true, Bool.true_eq_false, true_iff, iff_true, false_iff, iff_false]) <;> omega)
      rintro s1 σ1 ⟨rfl, f0, f3, f37⟩
      rw [hd] at hp
      refine AW.cond (b := !nameC i c) f37 (fun ht => ?_) (fun hf => AW.skip ?_)
      · refine AW.seq_k fun K9 h9 => ?_
        all_goals refine AW.reg0 ?_
        all_goals (refine S.g rfl rfl fun K' k' => ?_; simp only [zz, reduceIte, Nat.reduceEqDiff, Nat.reduceAdd]; refine k' _ _ ?_; clear k' K')
        all_goals refine S.nil ?_
        all_goals simp only [ze, reduceIte, Nat.reduceEqDiff, Nat.reduceLT, Nat.reduceLeDiff, Nat.reduceAdd, reduceCtorEq, Nat.reduceMul]
        all_goals apply_assumption
        refine AW.ret ?_
        all_goals simp only [zs, reduceIte, Nat.reduceEqDiff, Nat.reduceLT, Nat.reduceLeDiff, Nat.reduceAdd, reduceCtorEq, Nat.reduceMul]
        have hx : nameC i c = false := by simpa using ht
        simp [isName, hp, nameL, hx]
      · all_goals simp only [zs, reduceIte, Nat.reduceEqDiff, Nat.reduceLT, Nat.reduceLeDiff, Nat.reduceAdd, reduceCtorEq, Nat.reduceMul]
        all_goals apply_assumption
        have hw : IntKind.i64.wrap ((i : Int) + 1) = ((i + 1 : Nat) : Int) := by rw [wrap_small _ (by omega) (by omega)]; rfl
        all_goals refine AW.reg0 ?_
        all_goals iterate 3 (refine S.g rfl rfl fun K' k' => ?_; simp only [zz, reduceIte, Nat.reduceEqDiff, Nat.reduceAdd, f3, hw]; refine k' _ _ ?_; clear k' K')
        all_goals refine S.nil ?_
        all_goals simp only [ze, reduceIte, Nat.reduceEqDiff, Nat.reduceLT, Nat.reduceLeDiff, Nat.reduceAdd, reduceCtorEq, Nat.reduceMul, f3, hw]
        have hx : nameC i c = true := by simpa using hf
        refine ⟨m - 1, by omega, i + 1, by omega, f0, rfl, ?_⟩
        rw [hp, nameL, hx, Bool.true_and]
    · refine AW.exit ?_
      all_goals simp only [zs, reduceIte, Nat.reduceEqDiff, Nat.reduceLT, Nat.reduceLeDiff, Nat.reduceAdd, reduceCtorEq, Nat.reduceMul]
      -- EXIT 0
      all_goals apply_assumption
      have hi : str.size ≤ i := by simpa using hc
      have hnil : str.data.toList.drop i = [] := List.drop_of_length_le (by rw [Array.length_toList]; exact hi)
      rw [hnil] at hp
      refine AW.seq_k fun K10 h10 => ?_
      all_goals refine AW.reg0 ?_
      all_goals (refine S.g rfl rfl fun K' k' => ?_; simp only [zz, reduceIte, Nat.reduceEqDiff, Nat.reduceAdd]; refine k' _ _ ?_; clear k' K')
      all_goals refine S.nil ?_
      all_goals simp only [ze, reduceIte, Nat.reduceEqDiff, Nat.reduceLT, Nat.reduceLeDiff, Nat.reduceAdd, reduceCtorEq, Nat.reduceMul]
      all_goals apply_assumption
      refine AW.ret ?_
      all_goals simp only [zs, reduceIte, Nat.reduceEqDiff, Nat.reduceLT, Nat.reduceLeDiff, Nat.reduceAdd, reduceCtorEq, Nat.reduceMul]
      have h2 : (str.size != 0) = true := by simpa using hx0
      simp only [V.c.injEq, Value.bool.injEq, isName, hp, nameL]
      rw [h2, Bool.true_and, Bool.true_and, eq_comm, decide_eq_true_eq]
      exact hx1
theorem rcheck_attrs (l : List Attr) (hl : okA l) : PCalls Try.prog 110 [.sl (l.map encAttr)] (fun r => r = .c (.int .i64 (attrsErr l))) := by
  refine PCalls.intro Try.call110 Try.func110 rfl Try.ntmps110 Try.results110 (by simp) ?_
  refine AW.seq_k fun K1 h1 => ?_
  all_goals refine AW.reg0 ?_
  all_goals (refine S.g rfl rfl fun K' k' => ?_; simp only [zz, reduceIte, Nat.reduceEqDiff, Nat.reduceAdd]; refine k' _ _ ?_; clear k' K')
  all_goals refine S.nil ?_
  all_goals simp only [ze, reduceIte, Nat.reduceEqDiff, Nat.reduceLT, Nat.reduceLeDiff, Nat.reduceAdd, reduceCtorEq, Nat.reduceMul]
  all_goals apply_assumption
  refine AW.seq_k fun K2 h2 => ?_
  refine AW.seq_k fun K3 h3 => ?_
  all_goals refine AW.reg0 ?_
  all_goals iterate 3 (refine S.g rfl rfl fun K' k' => ?_; simp only [zz, reduceIte, Nat.reduceEqDiff, Nat.reduceLT, Nat.reduceLeDiff, Nat.reduceAdd, reduceCtorEq, Nat.reduceMul, sl34, el34, ok143, sz143, ag143]; refine k' _ _ ?_; clear k' K')
  all_goals refine S.nil ?_
  all_goals simp only [ze, reduceIte, Nat.reduceEqDiff, Nat.reduceLT, Nat.reduceLeDiff, Nat.reduceAdd, reduceCtorEq, Nat.reduceMul]
  all_goals apply_assumption
  refine AW.cond (b := decide ((l.length : Int) > 8)) (by simp [ev]) (fun hc => ?_) (fun hc => ?_)
  · refine AW.seq_k fun K4 h4 => ?_
    all_goals refine AW.reg0 ?_
    all_goals (refine S.g rfl rfl fun K' k' => ?_; simp only [zz, reduceIte, Nat.reduceEqDiff, Nat.reduceAdd]; refine k' _ _ ?_; clear k' K')
    all_goals refine S.nil ?_
    all_goals simp only [ze, reduceIte, Nat.reduceEqDiff, Nat.reduceLT, Nat.reduceLeDiff, Nat.reduceAdd, reduceCtorEq, Nat.reduceMul]
    all_goals apply_assumption
    refine AW.ret ?_
    all_goals simp only [zs, reduceIte, Nat.reduceEqDiff, Nat.reduceLT, Nat.reduceLeDiff, Nat.reduceAdd, reduceCtorEq, Nat.reduceMul]
    have : 8 < l.length := by have := of_decide_eq_true hc; omega
    simp [attrsErr, this]
  · refine AW.skip ?_
    all_goals simp only [zs, reduceIte, Nat.reduceEqDiff, Nat.reduceLT, Nat.reduceLeDiff, Nat.reduceAdd, reduceCtorEq, Nat.reduceMul]
    all_goals apply_assumption
    have hlen : l.length ≤ 8 := by have := of_decide_eq_false hc; omega
    refine AW.seq_k fun K5 h5 => ?_
    refine AW.seq_k fun K6 h6 => ?_
    all_goals refine AW.reg0 ?_
    all_goals (refine S.g rfl rfl fun K' k' => ?_; simp only [zz, reduceIte, Nat.reduceEqDiff, Nat.reduceAdd]; refine k' _ _ ?_; clear k' K')
    all_goals refine S.nil ?_
    all_goals simp only [ze, reduceIte, Nat.reduceEqDiff, Nat.reduceLT, Nat.reduceLeDiff, Nat.reduceAdd, reduceCtorEq, Nat.reduceMul]
    all_goals apply_assumption
    refine AW.block ?_   -- 0
    refine AW.loop (fun m s σ => σ = Hp.empty ∧ ∃ i : Nat, m + i = l.length ∧ s.t 0 = .sl (l.map encAttr) ∧ s.t 3 = .c (.int .i64 i) ∧ 
      attrsFrom none l = attrsFrom (if i = 0 then none else (l[i-1]?).map (·.name)) (l.drop i)) l.length ?_ ?_
    · refine ⟨rfl, 0, by simp, ?_⟩
      all_goals simp only [zs, reduceIte, Nat.reduceEqDiff, Nat.reduceLT, Nat.reduceLeDiff, Nat.reduceAdd, reduceCtorEq, Nat.reduceMul]
      simp
    rintro m s σ ⟨rfl, i, hm, e0, e11, hp⟩
    refine AW.seq_k fun K7 h7 => ?_
    refine AW.seq_k fun K8 h8 => ?_
    all_goals refine AW.reg0 ?_
    all_goals iterate 4 (refine S.g rfl rfl fun K' k' => ?_; simp only [zz, reduceIte, Nat.reduceEqDiff, Nat.reduceLT, Nat.reduceLeDiff, Nat.reduceAdd, reduceCtorEq, Nat.reduceMul, sl34, el34, ok143, sz143, ag143, e0, e11]; refine k' _ _ ?_; clear k' K')
    all_goals refine S.nil ?_
    all_goals simp only [ze, reduceIte, Nat.reduceEqDiff, Nat.reduceLT, Nat.reduceLeDiff, Nat.reduceAdd, reduceCtorEq, Nat.reduceMul, e0, e11]
    all_goals apply_assumption
    refine AW.cond (b := decide (i < l.length)) (by simp [ev]) (fun hc => ?_) (fun hc => ?_)
    · refine AW.skip ?_
      all_goals simp only [zs, reduceIte, Nat.reduceEqDiff, Nat.reduceLT, Nat.reduceLeDiff, Nat.reduceAdd, reduceCtorEq, Nat.reduceMul]
      all_goals apply_assumption
      have hi : i < l.length := by simpa using hc
      have hg := getD_map (f := encAttr) hi
      have hd : l.drop i = l[i] :: l.drop (i + 1) := List.drop_eq_getElem_cons hi
      have hmem := hl _ (List.getElem_mem hi)
      generalize ha : l[i] = a at hg hd hmem
      obtain ⟨hn1, hn2⟩ := hmem
      refine AW.seq_k fun K9 h9 => ?_
      refine AW.block ?_   -- 1
      refine AW.seq_k fun K10 h10 => ?_
      refine AW.seq_k fun K11 h11 => ?_
      all_goals refine AW.reg0 ?_
      all_goals iterate 5 (refine S.g rfl rfl fun K' k' => ?_; simp only [zz, reduceIte, Nat.reduceEqDiff, Nat.reduceLT, Nat.reduceLeDiff, Nat.reduceAdd, reduceCtorEq, Nat.reduceMul, sl34, el34, ok143, sz143, ag143, of143_0, ok9, sz9, ag9, e0, e11, hi, hg, encAttr]; refine k' _ _ ?_; clear k' K')
      all_goals (refine S.g rfl rfl fun K' k' => ?_; simp only [zz, reduceIte, Nat.reduceEqDiff, Nat.reduceLT, Nat.reduceLeDiff, Nat.reduceAdd, reduceCtorEq, Nat.reduceMul, e0, e11, hi, hg, encAttr]; refine PCalls.eqto (rname_spec _ (by assumption)) ?_ <;> (refine k' _ _ ?_; clear k' K'))
      all_goals (refine S.g rfl rfl fun K' k' => ?_; simp only [zz, reduceIte, Nat.reduceEqDiff, Nat.reduceAdd, e0, e11, hi, hg, encAttr]; refine k' _ _ ?_; clear k' K')
      all_goals refine S.nil ?_
      all_goals simp only [ze, reduceIte, Nat.reduceEqDiff, Nat.reduceLT, Nat.reduceLeDiff, Nat.reduceAdd, reduceCtorEq, Nat.reduceMul, e0, e11, hi, hg, encAttr]
      all_goals apply_assumption
      refine AW.cond (b := !isName a.name) (by simp [ev]) (fun hc => ?_) (fun hc => ?_)
      · refine AW.seq_k fun K12 h12 => ?_
        all_goals refine AW.reg0 ?_
        all_goals (refine S.g rfl rfl fun K' k' => ?_; simp only [zz, reduceIte, Nat.reduceEqDiff, Nat.reduceAdd]; refine k' _ _ ?_; clear k' K')
        all_goals refine S.nil ?_
        all_goals simp only [ze, reduceIte, Nat.reduceEqDiff, Nat.reduceLT, Nat.reduceLeDiff, Nat.reduceAdd, reduceCtorEq, Nat.reduceMul]
        all_goals apply_assumption
        refine AW.ret ?_
        all_goals simp only [zs, reduceIte, Nat.reduceEqDiff, Nat.reduceLT, Nat.reduceLeDiff, Nat.reduceAdd, reduceCtorEq, Nat.reduceMul]
        have hx : isName a.name = false := by simpa using hc
        have h8 : ¬ 8 < l.length := by omega
        simp [attrsErr, h8, hp, hd, attrsFrom, hx]
      · refine AW.skip ?_
        all_goals simp only [zs, reduceIte, Nat.reduceEqDiff, Nat.reduceLT, Nat.reduceLeDiff, Nat.reduceAdd, reduceCtorEq, Nat.reduceMul]
        all_goals apply_assumption
        have hx : isName a.name = true := by simpa using hc
        refine AW.seq_k fun K13 h13 => ?_
        refine AW.seq_k fun K14 h14 => ?_
        all_goals refine AW.reg0 ?_
        all_goals iterate 5 (refine S.g rfl rfl fun K' k' => ?_; simp only [zz, reduceIte, Nat.reduceEqDiff, Nat.reduceLT, Nat.reduceLeDiff, Nat.reduceAdd, reduceCtorEq, Nat.reduceMul, sl34, el34, ok143, sz143, ag143, of143_1, ok141, sz141, ag141, e0, e11, hi, hg, encAttr]; refine k' _ _ ?_; clear k' K')
        all_goals (refine S.g rfl rfl fun K' k' => ?_; simp only [zz, reduceIte, Nat.reduceEqDiff, Nat.reduceLT, Nat.reduceLeDiff, Nat.reduceAdd, reduceCtorEq, Nat.reduceMul, e0, e11, hi, hg, encAttr]; refine PCalls.eqto (rcheck_val _) ?_ <;> (refine k' _ _ ?_; clear k' K'))
        all_goals (refine S.g rfl rfl fun K' k' => ?_; simp only [zz, reduceIte, Nat.reduceEqDiff, Nat.reduceAdd, e0, e11, hi, hg, encAttr]; refine k' _ _ ?_; clear k' K')
        all_goals refine S.nil ?_
        all_goals simp only [ze, reduceIte, Nat.reduceEqDiff, Nat.reduceLT, Nat.reduceLeDiff, Nat.reduceAdd, reduceCtorEq, Nat.reduceMul, e0, e11, hi, hg, encAttr]
        all_goals apply_assumption
        refine AW.seq_k fun K15 h15 => ?_
        all_goals refine AW.reg0 ?_
        all_goals iterate 2 (refine S.g rfl rfl fun K' k' => ?_; simp only [zz, reduceIte, Nat.reduceEqDiff, Nat.reduceAdd]; refine k' _ _ ?_; clear k' K')
        all_goals refine S.nil ?_
        all_goals simp only [ze, reduceIte, Nat.reduceEqDiff, Nat.reduceLT, Nat.reduceLeDiff, Nat.reduceAdd, reduceCtorEq, Nat.reduceMul]
        all_goals apply_assumption
        refine AW.cond (b := valErr a.v != 0) (by simp [ev]) (fun hc => ?_) (fun hc => ?_)
        · refine AW.seq_k fun K16 h16 => ?_
          all_goals refine AW.reg0 ?_
          all_goals iterate 2 (refine S.g rfl rfl fun K' k' => ?_; simp only [zz, reduceIte, Nat.reduceEqDiff, Nat.reduceAdd]; refine k' _ _ ?_; clear k' K')
          all_goals refine S.nil ?_
          all_goals simp only [ze, reduceIte, Nat.reduceEqDiff, Nat.reduceLT, Nat.reduceLeDiff, Nat.reduceAdd, reduceCtorEq, Nat.reduceMul]
          all_goals apply_assumption
          refine AW.ret ?_
          all_goals simp only [zs, reduceIte, Nat.reduceEqDiff, Nat.reduceLT, Nat.reduceLeDiff, Nat.reduceAdd, reduceCtorEq, Nat.reduceMul]
          have hy : valErr a.v ≠ 0 := by simpa using hc
          have h8 : ¬ 8 < l.length := by omega
          simp [attrsErr, h8, hp, hd, attrsFrom, hx, hy]
        · refine AW.skip ?_
          all_goals simp only [zs, reduceIte, Nat.reduceEqDiff, Nat.reduceLT, Nat.reduceLeDiff, Nat.reduceAdd, reduceCtorEq, Nat.reduceMul]
          all_goals apply_assumption
          have hy : valErr a.v = 0 := by simpa using hc
          refine AW.seq_j (fun s' σ' => σ' = Hp.empty ∧ s'.t 0 = .sl (l.map encAttr) ∧ s'.t 3 = .c (.int .i64 i) ∧
            s'.t 45 = .c (.bool ((if i = 0 then none else (l[i-1]?).map (·.name)).any (leS a.name ·)))) ?_ ?_
          · clear hp hd
            by_cases hi0 : i = 0
            · subst hi0
              all_goals refine AW.draw (T := { sd := fun _ => false }) (fun _ _ h => by cases h) mixedO [(0, 0), (1, 0), (2, 0), (3, 0), (4, 0), (5, 0), (6, 0), (8, 0), (9, 0), (10, 0), (11, 0), (12, 0), (7, 1), (13, 1), (14, 0), (15, 0)] rfl (by kernel_rfl) (by kernel_rfl) ?_
              all_goals (refine D.g rfl trivial rfl rfl fun K' k' => ?_; simp only [zz, reduceIte, Nat.reduceEqDiff, Nat.reduceAdd, e0, e11]; refine k' _ _ ?_; clear k' K')
              all_goals (refine D.g rfl trivial rfl rfl fun K' k' => ?_; simp only [zz, reduceIte, Nat.reduceEqDiff, Nat.reduceLT, Nat.reduceLeDiff, Nat.reduceAdd, reduceCtorEq, Nat.reduceMul, e0, e11]; refine S.bool fun b a31 => ?_; cases b <;> (try (exfalso; first | exact Bool.noConfusion a31 | (have h := of_decide_eq_true a31; omega) | (have h := of_decide_eq_false a31; omega))) <;> (refine k' _ _ ?_; clear k' K'))
              all_goals (refine D.g rfl trivial rfl rfl fun K' k' => ?_; simp only [zz, reduceIte, Nat.reduceEqDiff, Nat.reduceAdd, e0, e11]; refine k' _ _ ?_; clear k' K')
              all_goals iterate 9 (first | (refine D.y rfl trivial rfl rfl rfl rfl fun K' k' => ?_; simp only [zz, reduceIte, Nat.reduceEqDiff, Nat.reduceLT, Nat.reduceLeDiff, Nat.reduceAdd, reduceCtorEq, Nat.reduceMul, sl34, el34, ok143, sz143, ag143, of143_0, e0, e11]; refine k' _ _ ?_; clear k' K') | ((first | refine D.x rfl (fun h => by cases h) rfl rfl rfl rfl fun K' k' => ?_ | refine D.u rfl (fun h => by cases h) rfl rfl rfl rfl fun K' k' => ?_); simp only [ze, reduceIte, Nat.reduceEqDiff]; refine k' _ _ ?_; clear k' K'))
              all_goals iterate 2 (first | (refine D.y rfl (by first | rfl | (simp only [stC, ze, reduceIte, Nat.reduceEqDiff, e0, e11]; done) | (simp only [stC, ze, reduceIte, Nat.reduceEqDiff, e0, e11]; rfl)) rfl rfl rfl rfl fun K' k' => ?_; simp only [zz, reduceIte, Nat.reduceEqDiff, Nat.reduceLT, Nat.reduceLeDiff, Nat.reduceAdd, reduceCtorEq, Nat.reduceMul, ok9, sz9, ag9, e0, e11]; refine k' _ _ ?_; clear k' K') | ((first | refine D.x rfl (fun _ => rfl) rfl rfl rfl rfl fun K' k' => ?_ | refine D.u rfl (fun _ => rfl) rfl rfl rfl rfl fun K' k' => ?_); simp only [ze, reduceIte, Nat.reduceEqDiff]; refine k' _ _ ?_; clear k' K'))
              all_goals (first | (refine D.y rfl trivial rfl rfl rfl rfl fun K' k' => ?_; simp only [zz, reduceIte, Nat.reduceEqDiff, Nat.reduceAdd, e0, e11]; refine k' _ _ ?_; clear k' K') | ((first | refine D.x rfl (fun h => by cases h) rfl rfl rfl rfl fun K' k' => ?_ | refine D.u rfl (fun h => by cases h) rfl rfl rfl rfl fun K' k' => ?_); simp only [ze, reduceIte, Nat.reduceEqDiff]; refine k' _ _ ?_; clear k' K'))
              all_goals (refine D.g rfl trivial rfl rfl fun K' k' => ?_; simp only [zz, reduceIte, Nat.reduceEqDiff, Nat.reduceAdd, e0, e11]; refine k' _ _ ?_; clear k' K')
              all_goals refine D.nil ?_
              all_goals simp only [ze, reduceIte, Nat.reduceEqDiff, Nat.reduceLT, Nat.reduceLeDiff, Nat.reduceAdd, reduceCtorEq, Nat.reduceMul, e0, e11]
              simp
            · have hi1 : i - 1 < l.length := by omega
              have hg1 := getD_map (f := encAttr) hi1
              have hw : IntKind.i64.wrap ((i : Int) - 1) = ((i - 1 : Nat) : Int) := by rw [wrap_small _ (by omega) (by omega)]; omega
              all_goals refine AW.draw (T := { sd := fun _ => false }) (fun _ _ h => by cases h) mixedO [(0, 0), (1, 0), (2, 0), (3, 0), (4, 0), (5, 0), (6, 0), (8, 0), (9, 0), (10, 0), (11, 0), (12, 0), (7, 1), (13, 1), (14, 0), (15, 0)] rfl (by kernel_rfl) (by kernel_rfl) ?_
              all_goals (refine D.g rfl trivial rfl rfl fun K' k' => ?_; simp only [zz, reduceIte, Nat.reduceEqDiff, Nat.reduceAdd, e0, e11, hi, hg, hi1, hg1, encAttr, hw]; refine k' _ _ ?_; clear k' K')
              all_goals (refine D.g rfl trivial rfl rfl fun K' k' => ?_; simp only [zz, reduceIte, Nat.reduceEqDiff, Nat.reduceLT, Nat.reduceLeDiff, Nat.reduceAdd, reduceCtorEq, Nat.reduceMul, e0, e11, hi, hg, hi1, hg1, encAttr, hw]; refine S.bool fun b a31 => ?_; cases b <;> (try (exfalso; first | exact Bool.noConfusion a31 | (have h := of_decide_eq_true a31; omega) | (have h := of_decide_eq_false a31; omega))) <;> (refine k' _ _ ?_; clear k' K'))
              all_goals (refine D.g rfl trivial rfl rfl fun K' k' => ?_; simp only [zz, reduceIte, Nat.reduceEqDiff, Nat.reduceAdd, e0, e11, hi, hg, hi1, hg1, encAttr, hw]; refine k' _ _ ?_; clear k' K')
              all_goals iterate 9 (first | (refine D.y rfl trivial rfl rfl rfl rfl fun K' k' => ?_; simp only [zz, reduceIte, Nat.reduceEqDiff, Nat.reduceLT, Nat.reduceLeDiff, Nat.reduceAdd, reduceCtorEq, Nat.reduceMul, sl34, el34, ok143, sz143, ag143, of143_0, e0, e11, hi, hg, hi1, hg1, encAttr, hw]; refine k' _ _ ?_; clear k' K') | ((first | refine D.x rfl (fun h => by cases h) rfl rfl rfl rfl fun K' k' => ?_ | refine D.u rfl (fun h => by cases h) rfl rfl rfl rfl fun K' k' => ?_); simp only [ze, reduceIte, Nat.reduceEqDiff]; refine k' _ _ ?_; clear k' K'))
              all_goals iterate 2 (first | (refine D.y rfl (by first | rfl | (simp only [stC, ze, reduceIte, Nat.reduceEqDiff, e0, e11, hi, hg, hi1, hg1, encAttr, hw]; done) | (simp only [stC, ze, reduceIte, Nat.reduceEqDiff, e0, e11, hi, hg, hi1, hg1, encAttr, hw]; rfl)) rfl rfl rfl rfl fun K' k' => ?_; simp only [zz, reduceIte, Nat.reduceEqDiff, Nat.reduceLT, Nat.reduceLeDiff, Nat.reduceAdd, reduceCtorEq, Nat.reduceMul, ok9, sz9, ag9, e0, e11, hi, hg, hi1, hg1, encAttr, hw]; refine k' _ _ ?_; clear k' K') | ((first | refine D.x rfl (fun _ => rfl) rfl rfl rfl rfl fun K' k' => ?_ | refine D.u rfl (fun _ => rfl) rfl rfl rfl rfl fun K' k' => ?_); simp only [ze, reduceIte, Nat.reduceEqDiff]; refine k' _ _ ?_; clear k' K'))
              all_goals (first | (refine D.y rfl trivial rfl rfl rfl rfl fun K' k' => ?_; simp only [zz, reduceIte, Nat.reduceEqDiff, Nat.reduceAdd, e0, e11, hi, hg, hi1, hg1, encAttr, hw]; refine k' _ _ ?_; clear k' K') | ((first | refine D.x rfl (fun h => by cases h) rfl rfl rfl rfl fun K' k' => ?_ | refine D.u rfl (fun h => by cases h) rfl rfl rfl rfl fun K' k' => ?_); simp only [ze, reduceIte, Nat.reduceEqDiff]; refine k' _ _ ?_; clear k' K'))
              all_goals (refine D.g rfl trivial rfl rfl fun K' k' => ?_; simp only [zz, reduceIte, Nat.reduceEqDiff, Nat.reduceAdd, e0, e11, hi, hg, hi1, hg1, encAttr, hw]; refine k' _ _ ?_; clear k' K')
              all_goals refine D.nil ?_
              all_goals simp only [ze, reduceIte, Nat.reduceEqDiff, Nat.reduceLT, Nat.reduceLeDiff, Nat.reduceAdd, reduceCtorEq, Nat.reduceMul, e0, e11, hi, hg, hi1, hg1, encAttr, hw]
              simp [hi0, hi1, leS]
          rintro s1 σ1 ⟨rfl, f0, f11, f38⟩
          refine AW.cond (b := _) f38 (fun hc => ?_) (fun hc => ?_)
          · refine AW.seq_k fun K17 h17 => ?_
            all_goals refine AW.reg0 ?_
            all_goals (refine S.g rfl rfl fun K' k' => ?_; simp only [zz, reduceIte, Nat.reduceEqDiff, Nat.reduceAdd]; refine k' _ _ ?_; clear k' K')
            all_goals refine S.nil ?_
            all_goals simp only [ze, reduceIte, Nat.reduceEqDiff, Nat.reduceLT, Nat.reduceLeDiff, Nat.reduceAdd, reduceCtorEq, Nat.reduceMul]
            all_goals apply_assumption
            refine AW.ret ?_
            all_goals simp only [zs, reduceIte, Nat.reduceEqDiff, Nat.reduceLT, Nat.reduceLeDiff, Nat.reduceAdd, reduceCtorEq, Nat.reduceMul]
            have h8 : ¬ 8 < l.length := by omega
            simp [attrsErr, h8, hp, hd, attrsFrom, hx, hy, hc]
          · refine AW.skip ?_
            all_goals simp only [zs, reduceIte, Nat.reduceEqDiff, Nat.reduceLT, Nat.reduceLeDiff, Nat.reduceAdd, reduceCtorEq, Nat.reduceMul]
            all_goals apply_assumption
            have hw : IntKind.i64.wrap ((i : Int) + 1) = ((i + 1 : Nat) : Int) := by rw [wrap_small _ (by omega) (by omega)]; rfl
            all_goals refine AW.reg0 ?_
            all_goals iterate 3 (refine S.g rfl rfl fun K' k' => ?_; simp only [zz, reduceIte, Nat.reduceEqDiff, Nat.reduceAdd, f11, hw]; refine k' _ _ ?_; clear k' K')
            all_goals refine S.nil ?_
            all_goals simp only [ze, reduceIte, Nat.reduceEqDiff, Nat.reduceLT, Nat.reduceLeDiff, Nat.reduceAdd, reduceCtorEq, Nat.reduceMul, f11, hw]
            refine ⟨m - 1, by omega, i + 1, by omega, f0, rfl, ?_⟩
            rw [hp, hd, attrsFrom]
            simp [hx, hy, hc, ha, hi]
    · refine AW.exit ?_
      all_goals simp only [zs, reduceIte, Nat.reduceEqDiff, Nat.reduceLT, Nat.reduceLeDiff, Nat.reduceAdd, reduceCtorEq, Nat.reduceMul]
      -- EXIT 0
      all_goals apply_assumption
      refine AW.seq_k fun K18 h18 => ?_
      all_goals refine AW.reg0 ?_
      all_goals (refine S.g rfl rfl fun K' k' => ?_; simp only [zz, reduceIte, Nat.reduceEqDiff, Nat.reduceAdd]; refine k' _ _ ?_; clear k' K')
      all_goals refine S.nil ?_
      all_goals simp only [ze, reduceIte, Nat.reduceEqDiff, Nat.reduceLT, Nat.reduceLeDiff, Nat.reduceAdd, reduceCtorEq, Nat.reduceMul]
      all_goals apply_assumption
      refine AW.ret ?_
      all_goals simp only [zs, reduceIte, Nat.reduceEqDiff, Nat.reduceLT, Nat.reduceLeDiff, Nat.reduceAdd, reduceCtorEq, Nat.reduceMul]
      have hi : l.length ≤ i := by simpa using hc
      have h8 : ¬ 8 < l.length := by omega
      simp [attrsErr, h8, hp, List.drop_of_length_le hi, attrsFrom]
theorem rcheck_ev (e : Ev) (he : okE e) : PCalls Try.prog 72 [.agg (encEv e)] (fun r => r = .c (.int .i64 (evErr e))) := by
  have h1 := he.type
  have h2 := he.attrs
  refine PCalls.intro Try.call72 Try.func72 rfl Try.ntmps72 Try.results72 (by simp) ?_
  refine AW.seq_k fun K1 h1 => ?_
  all_goals refine AW.reg0 ?_
  all_goals iterate 2 (refine S.g rfl rfl fun K' k' => ?_; simp only [zz, reduceIte, Nat.reduceEqDiff, Nat.reduceLT, Nat.reduceLeDiff, Nat.reduceAdd, reduceCtorEq, Nat.reduceMul, ok36, sz36, ag36, encEv]; refine k' _ _ ?_; clear k' K')
  all_goals refine S.nil ?_
  all_goals simp only [ze, reduceIte, Nat.reduceEqDiff, Nat.reduceLT, Nat.reduceLeDiff, Nat.reduceAdd, reduceCtorEq, Nat.reduceMul, encEv]
  all_goals apply_assumption
  refine AW.seq_k fun K2 h2 => ?_
  refine AW.seq_j (fun s' σ' => σ' = Hp.empty ∧ s'.l 1 = some (encEv e) ∧ s'.t 1 = .lp 1 0 ∧ s'.t 31 = .c (.bool (decide (e.src < 0 ∨ 16 ≤ e.src ∨ timeOk e.seq = false ∨ timeOk e.time = false ∨ isName e.type = false)))) ?_ ?_
  · skip
    all_goals refine AW.reg0 ?_
    all_goals iterate 3 (refine S.g rfl rfl fun K' k' => ?_; simp only [zz, reduceIte, Nat.reduceEqDiff, Nat.reduceLT, Nat.reduceLeDiff, Nat.reduceAdd, reduceCtorEq, Nat.reduceMul, of36_0, of33_0, ok3, sz3, ag3, encEv]; refine k' _ _ ?_; clear k' K')
    all_goals (refine S.g rfl rfl fun K' k' => ?_; simp only [zz, reduceIte, Nat.reduceEqDiff, Nat.reduceLT, Nat.reduceLeDiff, Nat.reduceAdd, reduceCtorEq, Nat.reduceMul, encEv]; refine S.bool fun b a6 => ?_; cases b <;> (try (exfalso; first | exact Bool.noConfusion a6 | (have h := of_decide_eq_true a6; omega) | (have h := of_decide_eq_false a6; omega))) <;> (refine k' _ _ ?_; clear k' K'))
    all_goals (refine S.g rfl rfl fun K' k' => ?_; simp only [zz, reduceIte, Nat.reduceEqDiff, Nat.reduceAdd, encEv]; refine k' _ _ ?_; clear k' K')
    all_goals iterate 3 (first | (refine S.y rfl rfl rfl rfl fun K' k' => ?_; simp only [zz, reduceIte, Nat.reduceEqDiff, Nat.reduceLT, Nat.reduceLeDiff, Nat.reduceAdd, reduceCtorEq, Nat.reduceMul, of36_0, of33_0, ok3, sz3, ag3, encEv]; refine k' _ _ ?_; clear k' K') | ((first | refine S.x rfl rfl rfl rfl fun K' k' => ?_ | refine S.u rfl rfl rfl rfl fun K' k' => ?_); simp only [ze, reduceIte, Nat.reduceEqDiff]; refine k' _ _ ?_; clear k' K'))
    all_goals (first | (refine S.y rfl rfl rfl rfl fun K' k' => ?_; simp only [zz, reduceIte, Nat.reduceEqDiff, Nat.reduceLT, Nat.reduceLeDiff, Nat.reduceAdd, reduceCtorEq, Nat.reduceMul, encEv]; refine S.bool fun b a11 => ?_; cases b <;> (try (exfalso; first | exact Bool.noConfusion a11 | (have h := of_decide_eq_true a11; omega) | (have h := of_decide_eq_false a11; omega))) <;> (refine k' _ _ ?_; clear k' K')) | ((first | refine S.x rfl rfl rfl rfl fun K' k' => ?_ | refine S.u rfl rfl rfl rfl fun K' k' => ?_); simp only [ze, reduceIte, Nat.reduceEqDiff]; refine k' _ _ ?_; clear k' K'))
    all_goals iterate 2 (refine S.g rfl rfl fun K' k' => ?_; simp only [zz, reduceIte, Nat.reduceEqDiff, Nat.reduceAdd, encEv]; refine k' _ _ ?_; clear k' K')
    all_goals iterate 3 (first | (refine S.y rfl rfl rfl rfl fun K' k' => ?_; simp only [zz, reduceIte, Nat.reduceEqDiff, Nat.reduceLT, Nat.reduceLeDiff, Nat.reduceAdd, reduceCtorEq, Nat.reduceMul, of36_0, of33_1, ok2, sz2, ag2, encEv]; refine k' _ _ ?_; clear k' K') | ((first | refine S.x rfl rfl rfl rfl fun K' k' => ?_ | refine S.u rfl rfl rfl rfl fun K' k' => ?_); simp only [ze, reduceIte, Nat.reduceEqDiff]; refine k' _ _ ?_; clear k' K'))
    all_goals (first | (refine S.y rfl rfl rfl rfl fun K' k' => ?_; simp only [zz, reduceIte, Nat.reduceEqDiff, Nat.reduceLT, Nat.reduceLeDiff, Nat.reduceAdd, reduceCtorEq, Nat.reduceMul, encEv]; refine PCalls.eqto (rtime_spec _) ?_; refine S.bool fun b a17 => ?_; cases b <;> (try (exfalso; first | exact Bool.noConfusion a17 | (have h := of_decide_eq_true a17; omega) | (have h := of_decide_eq_false a17; omega))) <;> (refine k' _ _ ?_; clear k' K')) | ((first | refine S.x rfl rfl rfl rfl fun K' k' => ?_ | refine S.u rfl rfl rfl rfl fun K' k' => ?_); simp only [ze, reduceIte, Nat.reduceEqDiff]; refine k' _ _ ?_; clear k' K'))
    all_goals (first | (refine S.y rfl rfl rfl rfl fun K' k' => ?_; simp only [zz, reduceIte, Nat.reduceEqDiff, Nat.reduceAdd, encEv]; refine k' _ _ ?_; clear k' K') | ((first | refine S.x rfl rfl rfl rfl fun K' k' => ?_ | refine S.u rfl rfl rfl rfl fun K' k' => ?_); simp only [ze, reduceIte, Nat.reduceEqDiff]; refine k' _ _ ?_; clear k' K'))
    all_goals iterate 2 (refine S.g rfl rfl fun K' k' => ?_; simp only [zz, reduceIte, Nat.reduceEqDiff, Nat.reduceAdd, encEv]; refine k' _ _ ?_; clear k' K')
    all_goals iterate 2 (first | (refine S.y rfl rfl rfl rfl fun K' k' => ?_; simp only [zz, reduceIte, Nat.reduceEqDiff, Nat.reduceLT, Nat.reduceLeDiff, Nat.reduceAdd, reduceCtorEq, Nat.reduceMul, of36_1, ok2, sz2, ag2, encEv]; refine k' _ _ ?_; clear k' K') | ((first | refine S.x rfl rfl rfl rfl fun K' k' => ?_ | refine S.u rfl rfl rfl rfl fun K' k' => ?_); simp only [ze, reduceIte, Nat.reduceEqDiff]; refine k' _ _ ?_; clear k' K'))
    all_goals (first | (refine S.y rfl rfl rfl rfl fun K' k' => ?_; simp only [zz, reduceIte, Nat.reduceEqDiff, Nat.reduceLT, Nat.reduceLeDiff, Nat.reduceAdd, reduceCtorEq, Nat.reduceMul, encEv]; refine PCalls.eqto (rtime_spec _) ?_; refine S.bool fun b a23 => ?_; cases b <;> (try (exfalso; first | exact Bool.noConfusion a23 | (have h := of_decide_eq_true a23; omega) | (have h := of_decide_eq_false a23; omega))) <;> (refine k' _ _ ?_; clear k' K')) | ((first | refine S.x rfl rfl rfl rfl fun K' k' => ?_ | refine S.u rfl rfl rfl rfl fun K' k' => ?_); simp only [ze, reduceIte, Nat.reduceEqDiff]; refine k' _ _ ?_; clear k' K'))
    all_goals (first | (refine S.y rfl rfl rfl rfl fun K' k' => ?_; simp only [zz, reduceIte, Nat.reduceEqDiff, Nat.reduceAdd, encEv]; refine k' _ _ ?_; clear k' K') | ((first | refine S.x rfl rfl rfl rfl fun K' k' => ?_ | refine S.u rfl rfl rfl rfl fun K' k' => ?_); simp only [ze, reduceIte, Nat.reduceEqDiff]; refine k' _ _ ?_; clear k' K'))
    all_goals iterate 2 (refine S.g rfl rfl fun K' k' => ?_; simp only [zz, reduceIte, Nat.reduceEqDiff, Nat.reduceAdd, encEv]; refine k' _ _ ?_; clear k' K')
    all_goals iterate 2 (first | (refine S.y rfl rfl rfl rfl fun K' k' => ?_; simp only [zz, reduceIte, Nat.reduceEqDiff, Nat.reduceLT, Nat.reduceLeDiff, Nat.reduceAdd, reduceCtorEq, Nat.reduceMul, of36_2, ok9, sz9, ag9, encEv]; refine k' _ _ ?_; clear k' K') | ((first | refine S.x rfl rfl rfl rfl fun K' k' => ?_ | refine S.u rfl rfl rfl rfl fun K' k' => ?_); simp only [ze, reduceIte, Nat.reduceEqDiff]; refine k' _ _ ?_; clear k' K'))
    all_goals (first | (refine S.y rfl rfl rfl rfl fun K' k' => ?_; simp only [zz, reduceIte, Nat.reduceEqDiff, Nat.reduceLT, Nat.reduceLeDiff, Nat.reduceAdd, reduceCtorEq, Nat.reduceMul, encEv]; refine PCalls.eqto (rname_spec _ (by assumption)) ?_ <;> (refine k' _ _ ?_; clear k' K')) | ((first | refine S.x rfl rfl rfl rfl fun K' k' => ?_ | refine S.u rfl rfl rfl rfl fun K' k' => ?_); simp only [ze, reduceIte, Nat.reduceEqDiff]; refine k' _ _ ?_; clear k' K'))
    all_goals (first | (refine S.y rfl rfl rfl rfl fun K' k' => ?_; simp only [zz, reduceIte, Nat.reduceEqDiff, Nat.reduceAdd, encEv]; refine k' _ _ ?_; clear k' K') | ((first | refine S.x rfl rfl rfl rfl fun K' k' => ?_ | refine S.u rfl rfl rfl rfl fun K' k' => ?_); simp only [ze, reduceIte, Nat.reduceEqDiff]; refine k' _ _ ?_; clear k' K'))
    all_goals (refine S.g rfl rfl fun K' k' => ?_; simp only [zz, reduceIte, Nat.reduceEqDiff, Nat.reduceAdd, encEv]; refine k' _ _ ?_; clear k' K')
    all_goals refine S.nil ?_
    all_goals simp only [ze, reduceIte, Nat.reduceEqDiff, Nat.reduceLT, Nat.reduceLeDiff, Nat.reduceAdd, reduceCtorEq, Nat.reduceMul, encEv]
    all_goals simp_all
    have k1 : ¬ e.src < 0 := by omega
    have k2 : ¬ 16 ≤ e.src := by omega
    simp [k1, k2]
  rintro s σ ⟨rfl, l1, e1, e31⟩
  rw [encEv] at l1
  refine AW.cond (b := _) e31 (fun hc => ?_) (fun hc => ?_)
  · refine AW.seq_k fun K3 h3 => ?_
    all_goals refine AW.reg0 ?_
    all_goals (refine S.g rfl rfl fun K' k' => ?_; simp only [zz, reduceIte, Nat.reduceEqDiff, Nat.reduceAdd]; refine k' _ _ ?_; clear k' K')
    all_goals refine S.nil ?_
    all_goals simp only [ze, reduceIte, Nat.reduceEqDiff, Nat.reduceLT, Nat.reduceLeDiff, Nat.reduceAdd, reduceCtorEq, Nat.reduceMul]
    all_goals apply_assumption
    refine AW.ret ?_
    all_goals simp only [zs, reduceIte, Nat.reduceEqDiff, Nat.reduceLT, Nat.reduceLeDiff, Nat.reduceAdd, reduceCtorEq, Nat.reduceMul]
    have := of_decide_eq_true hc
    simp [evErr, this]
  · refine AW.skip ?_
    all_goals simp only [zs, reduceIte, Nat.reduceEqDiff, Nat.reduceLT, Nat.reduceLeDiff, Nat.reduceAdd, reduceCtorEq, Nat.reduceMul]
    all_goals apply_assumption
    refine AW.seq_k fun K4 h4 => ?_
    all_goals refine AW.reg0 ?_
    all_goals iterate 2 (refine S.g rfl rfl fun K' k' => ?_; simp only [zz, reduceIte, Nat.reduceEqDiff, Nat.reduceLT, Nat.reduceLeDiff, Nat.reduceAdd, reduceCtorEq, Nat.reduceMul, of36_3, ok34, sz34, ag34, e1, l1]; refine k' _ _ ?_; clear k' K')
    all_goals (refine S.g rfl rfl fun K' k' => ?_; simp only [zz, reduceIte, Nat.reduceEqDiff, Nat.reduceLT, Nat.reduceLeDiff, Nat.reduceAdd, reduceCtorEq, Nat.reduceMul, e1, l1]; refine PCalls.eqto (rcheck_attrs _ (by assumption)) ?_ <;> (refine k' _ _ ?_; clear k' K'))
    all_goals (refine S.g rfl rfl fun K' k' => ?_; simp only [zz, reduceIte, Nat.reduceEqDiff, Nat.reduceAdd, e1, l1]; refine k' _ _ ?_; clear k' K')
    all_goals refine S.nil ?_
    all_goals simp only [ze, reduceIte, Nat.reduceEqDiff, Nat.reduceLT, Nat.reduceLeDiff, Nat.reduceAdd, reduceCtorEq, Nat.reduceMul, e1, l1]
    all_goals apply_assumption
    refine AW.ret ?_
    all_goals simp only [zs, reduceIte, Nat.reduceEqDiff, Nat.reduceLT, Nat.reduceLeDiff, Nat.reduceAdd, reduceCtorEq, Nat.reduceMul]
    have := of_decide_eq_false hc
    simp only [evErr, if_neg this]
end Go.Abs.M
namespace Go.Abs.M
open Go Go.Abs Go.Proofs
set_option maxRecDepth 20000
set_option linter.unusedSimpArgs false
set_option linter.unusedVariables false
def idOf (b : Bd) : Int × Int := (b.ev.src, b.ev.seq)
theorem rcheck_part (l : List Bd) (hl : okP l) : PCalls Try.prog 16 [.agg [.sl (l.map encBd)]] (fun r => r = .c (.int .i64 (partErr l))) := by
  refine PCalls.intro Try.call16 Try.func16 rfl Try.ntmps16 Try.results16 (by simp) ?_
  refine AW.seq_k fun K1 h1 => ?_
  all_goals refine AW.reg0 ?_
  all_goals iterate 2 (refine S.g rfl rfl fun K' k' => ?_; simp only [zz, reduceIte, Nat.reduceEqDiff, Nat.reduceLT, Nat.reduceLeDiff, Nat.reduceAdd, reduceCtorEq, Nat.reduceMul, ok24, sz24, ag24]; refine k' _ _ ?_; clear k' K')
  all_goals refine S.nil ?_
  all_goals simp only [ze, reduceIte, Nat.reduceEqDiff, Nat.reduceLT, Nat.reduceLeDiff, Nat.reduceAdd, reduceCtorEq, Nat.reduceMul]
  all_goals apply_assumption
  refine AW.seq_k fun K2 h2 => ?_
  all_goals refine AW.reg0 ?_
  all_goals iterate 3 (refine S.g rfl rfl fun K' k' => ?_; simp only [zz, reduceIte, Nat.reduceEqDiff, Nat.reduceLT, Nat.reduceLeDiff, Nat.reduceAdd, reduceCtorEq, Nat.reduceMul, of24_0, ok22, sz22, ag22]; refine k' _ _ ?_; clear k' K')
  all_goals refine S.nil ?_
  all_goals simp only [ze, reduceIte, Nat.reduceEqDiff, Nat.reduceLT, Nat.reduceLeDiff, Nat.reduceAdd, reduceCtorEq, Nat.reduceMul]
  all_goals apply_assumption
  refine AW.seq_k fun K3 h3 => ?_
  refine AW.seq_k fun K4 h4 => ?_
  all_goals refine AW.reg0 ?_
  all_goals iterate 3 (refine S.g rfl rfl fun K' k' => ?_; simp only [zz, reduceIte, Nat.reduceEqDiff, Nat.reduceLT, Nat.reduceLeDiff, Nat.reduceAdd, reduceCtorEq, Nat.reduceMul, sl22, el22, ok42, sz42, ag42]; refine k' _ _ ?_; clear k' K')
  all_goals refine S.nil ?_
  all_goals simp only [ze, reduceIte, Nat.reduceEqDiff, Nat.reduceLT, Nat.reduceLeDiff, Nat.reduceAdd, reduceCtorEq, Nat.reduceMul]
  all_goals apply_assumption
  refine AW.cond (b := decide ((l.length : Int) > 12)) (by simp [ev]) (fun hc => ?_) (fun hc => ?_)
  · refine AW.seq_k fun K5 h5 => ?_
    all_goals refine AW.reg0 ?_
    all_goals (refine S.g rfl rfl fun K' k' => ?_; simp only [zz, reduceIte, Nat.reduceEqDiff, Nat.reduceAdd]; refine k' _ _ ?_; clear k' K')
    all_goals refine S.nil ?_
    all_goals simp only [ze, reduceIte, Nat.reduceEqDiff, Nat.reduceLT, Nat.reduceLeDiff, Nat.reduceAdd, reduceCtorEq, Nat.reduceMul]
    all_goals apply_assumption
    refine AW.ret ?_
    all_goals simp only [zs, reduceIte, Nat.reduceEqDiff, Nat.reduceLT, Nat.reduceLeDiff, Nat.reduceAdd, reduceCtorEq, Nat.reduceMul]
    have : 12 < l.length := by have := of_decide_eq_true hc; omega
    simp [partErr, this]
  · refine AW.skip ?_
    all_goals simp only [zs, reduceIte, Nat.reduceEqDiff, Nat.reduceLT, Nat.reduceLeDiff, Nat.reduceAdd, reduceCtorEq, Nat.reduceMul]
    all_goals apply_assumption
    have hlen : l.length ≤ 12 := by have := of_decide_eq_false hc; omega
    refine AW.seq_k fun K6 h6 => ?_
    refine AW.seq_k fun K7 h7 => ?_
    all_goals refine AW.reg0 ?_
    all_goals (refine S.g rfl rfl fun K' k' => ?_; simp only [zz, reduceIte, Nat.reduceEqDiff, Nat.reduceAdd]; refine k' _ _ ?_; clear k' K')
    all_goals refine S.nil ?_
    all_goals simp only [ze, reduceIte, Nat.reduceEqDiff, Nat.reduceLT, Nat.reduceLeDiff, Nat.reduceAdd, reduceCtorEq, Nat.reduceMul]
    all_goals apply_assumption
    refine AW.block ?_   -- 0
    refine AW.loop (fun m s σ => σ = Hp.empty ∧ ∃ i : Nat, m + i = l.length ∧ s.t 3 = .sl (l.map encBd) ∧ s.t 4 = .c (.int .i64 i) ∧
      partFrom l.length none [] l = partFrom l.length (if i = 0 then none else (l[i-1]?).map (·.var)) ((l.take i).map idOf) (l.drop i)) l.length ?_ ?_
    · refine ⟨rfl, 0, by simp, ?_⟩
      all_goals simp only [zs, reduceIte, Nat.reduceEqDiff, Nat.reduceLT, Nat.reduceLeDiff, Nat.reduceAdd, reduceCtorEq, Nat.reduceMul]
      simp
    rintro m s σ ⟨rfl, i, hm, e3, e4, hp⟩
    refine AW.seq_k fun K8 h8 => ?_
    refine AW.seq_k fun K9 h9 => ?_
    all_goals refine AW.reg0 ?_
    all_goals iterate 4 (refine S.g rfl rfl fun K' k' => ?_; simp only [zz, reduceIte, Nat.reduceEqDiff, Nat.reduceLT, Nat.reduceLeDiff, Nat.reduceAdd, reduceCtorEq, Nat.reduceMul, sl22, el22, ok42, sz42, ag42, e3, e4]; refine k' _ _ ?_; clear k' K')
    all_goals refine S.nil ?_
    all_goals simp only [ze, reduceIte, Nat.reduceEqDiff, Nat.reduceLT, Nat.reduceLeDiff, Nat.reduceAdd, reduceCtorEq, Nat.reduceMul, e3, e4]
    all_goals apply_assumption
    refine AW.cond (b := decide (i < l.length)) (by simp [ev]) (fun hc => ?_) (fun hc => ?_)
    · refine AW.skip ?_
      all_goals simp only [zs, reduceIte, Nat.reduceEqDiff, Nat.reduceLT, Nat.reduceLeDiff, Nat.reduceAdd, reduceCtorEq, Nat.reduceMul]
      all_goals apply_assumption
      have hi : i < l.length := by simpa using hc
      have hg := getD_map (f := encBd) hi
      have hd : l.drop i = l[i] :: l.drop (i + 1) := List.drop_eq_getElem_cons hi
      have hmem := hl _ (List.getElem_mem hi)
      have htk : l.take (i + 1) = l.take i ++ [l[i]] := by rw [List.take_append_getElem]
      generalize ha : l[i] = a at hg hd hmem htk
      have hn1 := hmem.var
      have hn2 := hmem.ev
      have h8 : ¬ 12 < l.length := by omega
      refine AW.seq_k fun K10 h10 => ?_
      refine AW.block ?_   -- 1
      refine AW.seq_j (fun s' σ' => σ' = Hp.empty ∧ s'.t 3 = .sl (l.map encBd) ∧ s'.t 4 = .c (.int .i64 i) ∧ named l.length a = true ∧ (if i = 0 then none else (l[i-1]?).map (·.var)).any (leS a.var ·) = false) ?_ ?_
      · refine AW.seq_j (fun s' σ' => σ' = Hp.empty ∧ s'.t 3 = .sl (l.map encBd) ∧ s'.t 4 = .c (.int .i64 i) ∧
          s'.t 55 = .c (.bool (!named l.length a || (if i = 0 then none else (l[i-1]?).map (·.var)).any (leS a.var ·)))) ?_ ?_
        · clear hp hd hl hmem htk h8
          by_cases hi0 : i = 0
          · have hpb : (if i = 0 then none else (l[i-1]?).map (·.var)).any (leS a.var ·) = false := by simp [hi0]
            rw [hpb]
            all_goals refine AW.draw (T := { sd := fun _ => false }) (fun _ _ h => by cases h) mixedO [(0, 0), (1, 0), (2, 0), (3, 0), (4, 1), (5, 2), (6, 0), (7, 0), (8, 0), (9, 0), (10, 0), (11, 0), (12, 1), (13, 0), (14, 0), (15, 0), (16, 0), (17, 0), (18, 0), (19, 0), (20, 0), (21, 0), (22, 0), (23, 0), (24, 0), (25, 0), (26, 0), (27, 0), (29, 0), (30, 0), (31, 0), (32, 0), (33, 0), (28, 1), (34, 1), (35, 0), (36, 0), (37, 0)] rfl (by kernel_rfl) (by kernel_rfl) ?_
            all_goals iterate 4 (refine D.g rfl trivial rfl rfl fun K' k' => ?_; simp only [zz, reduceIte, Nat.reduceEqDiff, Nat.reduceLT, Nat.reduceLeDiff, Nat.reduceAdd, reduceCtorEq, Nat.reduceMul, sl22, el22, ok42, sz42, ag42, of42_0, e3, e4, hi, hg, encBd]; refine k' _ _ ?_; clear k' K')
            all_goals (refine D.g rfl (by first | rfl | (simp only [stC, ze, reduceIte, Nat.reduceEqDiff, e3, e4, hi, hg, encBd]; done) | (simp only [stC, ze, reduceIte, Nat.reduceEqDiff, e3, e4, hi, hg, encBd]; rfl)) rfl rfl fun K' k' => ?_; simp only [zz, reduceIte, Nat.reduceEqDiff, Nat.reduceLT, Nat.reduceLeDiff, Nat.reduceAdd, reduceCtorEq, Nat.reduceMul, ok9, sz9, ag9, e3, e4, hi, hg, encBd]; refine k' _ _ ?_; clear k' K')
            all_goals (refine D.g rfl trivial rfl rfl fun K' k' => ?_; simp only [zz, reduceIte, Nat.reduceEqDiff, Nat.reduceLT, Nat.reduceLeDiff, Nat.reduceAdd, reduceCtorEq, Nat.reduceMul, e3, e4, hi, hg, encBd]; refine PCalls.eqto (rname_spec _ (by assumption)) ?_; refine S.bool fun b a23 => ?_; cases b <;> (try (exfalso; first | exact Bool.noConfusion a23 | (have h := of_decide_eq_true a23; omega) | (have h := of_decide_eq_false a23; omega))) <;> (refine k' _ _ ?_; clear k' K'))
            all_goals iterate 2 (refine D.g rfl trivial rfl rfl fun K' k' => ?_; simp only [zz, reduceIte, Nat.reduceEqDiff, Nat.reduceAdd, e3, e4, hi, hg, encBd]; refine k' _ _ ?_; clear k' K')
            all_goals iterate 4 (first | (refine D.y rfl trivial rfl rfl rfl rfl fun K' k' => ?_; simp only [zz, reduceIte, Nat.reduceEqDiff, Nat.reduceLT, Nat.reduceLeDiff, Nat.reduceAdd, reduceCtorEq, Nat.reduceMul, sl22, el22, ok42, sz42, ag42, of42_0, e3, e4, hi, hg, encBd]; refine k' _ _ ?_; clear k' K') | ((first | refine D.x rfl (fun h => by cases h) rfl rfl rfl rfl fun K' k' => ?_ | refine D.u rfl (fun h => by cases h) rfl rfl rfl rfl fun K' k' => ?_); simp only [ze, reduceIte, Nat.reduceEqDiff]; refine k' _ _ ?_; clear k' K'))
            all_goals (first | (refine D.y rfl (by first | rfl | (simp only [stC, ze, reduceIte, Nat.reduceEqDiff, e3, e4, hi, hg, encBd]; done) | (simp only [stC, ze, reduceIte, Nat.reduceEqDiff, e3, e4, hi, hg, encBd]; rfl)) rfl rfl rfl rfl fun K' k' => ?_; simp only [zz, reduceIte, Nat.reduceEqDiff, Nat.reduceLT, Nat.reduceLeDiff, Nat.reduceAdd, reduceCtorEq, Nat.reduceMul, ok9, sz9, ag9, e3, e4, hi, hg, encBd]; refine k' _ _ ?_; clear k' K') | ((first | refine D.x rfl (fun _ => rfl) rfl rfl rfl rfl fun K' k' => ?_ | refine D.u rfl (fun _ => rfl) rfl rfl rfl rfl fun K' k' => ?_); simp only [ze, reduceIte, Nat.reduceEqDiff]; refine k' _ _ ?_; clear k' K'))
            all_goals (first | (refine D.y rfl trivial rfl rfl rfl rfl fun K' k' => ?_; simp only [zz, reduceIte, Nat.reduceEqDiff, Nat.reduceLT, Nat.reduceLeDiff, Nat.reduceAdd, reduceCtorEq, Nat.reduceMul, e3, e4, hi, hg, encBd]; refine S.bool fun b a31 => ?_; cases b <;> (try (exfalso; first | exact Bool.noConfusion a31 | (have h := of_decide_eq_true a31; omega) | (have h := of_decide_eq_false a31; omega))) <;> (refine k' _ _ ?_; clear k' K')) | ((first | refine D.x rfl (fun h => by cases h) rfl rfl rfl rfl fun K' k' => ?_ | refine D.u rfl (fun h => by cases h) rfl rfl rfl rfl fun K' k' => ?_); simp only [ze, reduceIte, Nat.reduceEqDiff]; refine k' _ _ ?_; clear k' K'))
            all_goals iterate 3 (first | (refine D.y rfl trivial rfl rfl rfl rfl fun K' k' => ?_; simp only [zz, reduceIte, Nat.reduceEqDiff, Nat.reduceLT, Nat.reduceLeDiff, Nat.reduceAdd, reduceCtorEq, Nat.reduceMul, sl22, el22, ok42, sz42, ag42, e3, e4, hi, hg, encBd]; refine k' _ _ ?_; clear k' K') | ((first | refine D.x rfl (fun h => by cases h) rfl rfl rfl rfl fun K' k' => ?_ | refine D.u rfl (fun h => by cases h) rfl rfl rfl rfl fun K' k' => ?_); simp only [ze, reduceIte, Nat.reduceEqDiff]; refine k' _ _ ?_; clear k' K'))
            all_goals (first | (refine D.y rfl trivial rfl rfl rfl rfl fun K' k' => ?_; simp only [zz, reduceIte, Nat.reduceEqDiff, Nat.reduceLT, Nat.reduceLeDiff, Nat.reduceAdd, reduceCtorEq, Nat.reduceMul, e3, e4, hi, hg, encBd]; refine S.bool fun b a35 => ?_; cases b <;> (try (exfalso; first | exact Bool.noConfusion a35 | (have h := of_decide_eq_true a35; omega) | (have h := of_decide_eq_false a35; omega))) <;> (refine k' _ _ ?_; clear k' K')) | ((first | refine D.x rfl (fun h => by cases h) rfl rfl rfl rfl fun K' k' => ?_ | refine D.u rfl (fun h => by cases h) rfl rfl rfl rfl fun K' k' => ?_); simp only [ze, reduceIte, Nat.reduceEqDiff]; refine k' _ _ ?_; clear k' K'))
            all_goals (first | (refine D.y rfl trivial rfl rfl rfl rfl fun K' k' => ?_; simp only [zz, reduceIte, Nat.reduceEqDiff, Nat.reduceAdd, e3, e4, hi, hg, encBd]; refine k' _ _ ?_; clear k' K') | ((first | refine D.x rfl (fun h => by cases h) rfl rfl rfl rfl fun K' k' => ?_ | refine D.u rfl (fun h => by cases h) rfl rfl rfl rfl fun K' k' => ?_); simp only [ze, reduceIte, Nat.reduceEqDiff]; refine k' _ _ ?_; clear k' K'))
            all_goals iterate 2 (refine D.g rfl trivial rfl rfl fun K' k' => ?_; simp only [zz, reduceIte, Nat.reduceEqDiff, Nat.reduceAdd, e3, e4, hi, hg, encBd]; refine k' _ _ ?_; clear k' K')
            all_goals (first | (refine D.y rfl trivial rfl rfl rfl rfl fun K' k' => ?_; simp only [zz, reduceIte, Nat.reduceEqDiff, Nat.reduceAdd, e3, e4, hi, hg, encBd]; refine k' _ _ ?_; clear k' K') | ((first | refine D.x rfl (fun h => by cases h) rfl rfl rfl rfl fun K' k' => ?_ | refine D.u rfl (fun h => by cases h) rfl rfl rfl rfl fun K' k' => ?_); simp only [ze, reduceIte, Nat.reduceEqDiff]; refine k' _ _ ?_; clear k' K'))
            all_goals (first | (refine D.y rfl trivial rfl rfl rfl rfl fun K' k' => ?_; simp only [zz, reduceIte, Nat.reduceEqDiff, Nat.reduceLT, Nat.reduceLeDiff, Nat.reduceAdd, reduceCtorEq, Nat.reduceMul, e3, e4, hi, hg, encBd]; refine S.bool fun b a40 => ?_; cases b <;> (try (exfalso; first | exact Bool.noConfusion a40 | (have h := of_decide_eq_true a40; omega) | (have h := of_decide_eq_false a40; omega))) <;> (refine k' _ _ ?_; clear k' K')) | ((first | refine D.x rfl (fun h => by cases h) rfl rfl rfl rfl fun K' k' => ?_ | refine D.u rfl (fun h => by cases h) rfl rfl rfl rfl fun K' k' => ?_); simp only [ze, reduceIte, Nat.reduceEqDiff]; refine k' _ _ ?_; clear k' K'))
            all_goals iterate 10 (first | (refine D.y rfl trivial rfl rfl rfl rfl fun K' k' => ?_; simp only [zz, reduceIte, Nat.reduceEqDiff, Nat.reduceLT, Nat.reduceLeDiff, Nat.reduceAdd, reduceCtorEq, Nat.reduceMul, sl22, el22, ok42, sz42, ag42, of42_0, e3, e4, hi, hg, encBd]; refine k' _ _ ?_; clear k' K') | ((first | refine D.x rfl (fun h => by cases h) rfl rfl rfl rfl fun K' k' => ?_ | refine D.u rfl (fun h => by cases h) rfl rfl rfl rfl fun K' k' => ?_); simp only [ze, reduceIte, Nat.reduceEqDiff]; refine k' _ _ ?_; clear k' K'))
            all_goals iterate 2 (first | (refine D.y rfl (by first | rfl | (simp only [stC, ze, reduceIte, Nat.reduceEqDiff, e3, e4, hi, hg, encBd]; done) | (simp only [stC, ze, reduceIte, Nat.reduceEqDiff, e3, e4, hi, hg, encBd]; rfl)) rfl rfl rfl rfl fun K' k' => ?_; simp only [zz, reduceIte, Nat.reduceEqDiff, Nat.reduceLT, Nat.reduceLeDiff, Nat.reduceAdd, reduceCtorEq, Nat.reduceMul, ok9, sz9, ag9, e3, e4, hi, hg, encBd]; refine k' _ _ ?_; clear k' K') | ((first | refine D.x rfl (fun _ => rfl) rfl rfl rfl rfl fun K' k' => ?_ | refine D.u rfl (fun _ => rfl) rfl rfl rfl rfl fun K' k' => ?_); simp only [ze, reduceIte, Nat.reduceEqDiff]; refine k' _ _ ?_; clear k' K'))
            all_goals iterate 2 (first | (refine D.y rfl trivial rfl rfl rfl rfl fun K' k' => ?_; simp only [zz, reduceIte, Nat.reduceEqDiff, Nat.reduceAdd, e3, e4, hi, hg, encBd]; refine k' _ _ ?_; clear k' K') | ((first | refine D.x rfl (fun h => by cases h) rfl rfl rfl rfl fun K' k' => ?_ | refine D.u rfl (fun h => by cases h) rfl rfl rfl rfl fun K' k' => ?_); simp only [ze, reduceIte, Nat.reduceEqDiff]; refine k' _ _ ?_; clear k' K'))
            all_goals (refine D.g rfl trivial rfl rfl fun K' k' => ?_; simp only [zz, reduceIte, Nat.reduceEqDiff, Nat.reduceAdd, e3, e4, hi, hg, encBd]; refine k' _ _ ?_; clear k' K')
            all_goals refine D.nil ?_
            all_goals simp only [ze, reduceIte, Nat.reduceEqDiff, Nat.reduceLT, Nat.reduceLeDiff, Nat.reduceAdd, reduceCtorEq, Nat.reduceMul, e3, e4, hi, hg, encBd]
            all_goals clear hpb hg hn2 hn1 hc
            all_goals (try simp only [beq_eq_false_iff_ne, decide_eq_true_eq, decide_eq_false_iff_not, beq_iff_eq, ne_eq, Bool.not_eq_true', Bool.not_eq_false', bne_iff_ne, bne_eq_false_iff_eq] at *)
            all_goals (try simp only [V.c.injEq, Value.bool.injEq, Value.int.injEq, true_and, named, a23])
            all_goals first | done | rfl | omega | ((rw [Bool.eq_iff_iff]; simp only [beq_eq_false_iff_ne, decide_eq_true_eq, decide_eq_false_iff_not, beq_iff_eq, ne_eq, Bool.not_eq_true', Bool.not_eq_false', bne_iff_ne, bne_eq_false_iff_eq, Bool.false_or, Bool.true_or, Bool.or_false, Bool.or_true, Bool.false_and, Bool.and_false, Bool.true_and, Bool.and_true, Bool.not_true, Bool.not_false, Bool.or_eq_false_iff, Bool.and_eq_false_iff, Bool.or_eq_true, Bool.and_eq_true, Bool.false_eq_true, Bool.true_eq_false, true_iff, iff_true, false_iff, iff_false]) <;> omega)
          · have hi1 : i - 1 < l.length := by omega
            have hpb : (if i = 0 then none else (l[i-1]?).map (·.var)).any (leS a.var ·) = leS a.var l[i-1].var := by simp [hi0, hi1]
            obtain ⟨q, hq⟩ : ∃ q, leS a.var l[i-1].var = q := ⟨_, rfl⟩
            have hle : (Op.bytesLess a.var.toList l[i-1].var.toList || a.var.toList == l[i-1].var.toList) = q := hq
            rw [hpb, hq]
            have hg1 := getD_map (f := encBd) hi1
            have hw : IntKind.i64.wrap ((i : Int) - 1) = ((i - 1 : Nat) : Int) := by rw [wrap_small _ (by omega) (by omega)]; omega
            all_goals refine AW.draw (T := { sd := fun _ => false }) (fun _ _ h => by cases h) mixedO [(0, 0), (1, 0), (2, 0), (3, 0), (4, 1), (5, 2), (6, 0), (7, 0), (8, 0), (9, 0), (10, 0), (11, 0), (12, 1), (13, 0), (14, 0), (15, 0), (16, 0), (17, 0), (18, 0), (19, 0), (20, 0), (21, 0), (22, 0), (23, 0), (24, 0), (25, 0), (26, 0), (27, 0), (29, 0), (30, 0), (31, 0), (32, 0), (33, 0), (28, 1), (34, 1), (35, 0), (36, 0), (37, 0)] rfl (by kernel_rfl) (by kernel_rfl) ?_
            all_goals iterate 4 (refine D.g rfl trivial rfl rfl fun K' k' => ?_; simp only [zz, reduceIte, Nat.reduceEqDiff, Nat.reduceLT, Nat.reduceLeDiff, Nat.reduceAdd, reduceCtorEq, Nat.reduceMul, sl22, el22, ok42, sz42, ag42, of42_0, e3, e4, hi, hg, encBd, hi1, hg1, hw, hle]; refine k' _ _ ?_; clear k' K')
            all_goals (refine D.g rfl (by first | rfl | (simp only [stC, ze, reduceIte, Nat.reduceEqDiff, e3, e4, hi, hg, encBd, hi1, hg1, hw, hle]; done) | (simp only [stC, ze, reduceIte, Nat.reduceEqDiff, e3, e4, hi, hg, encBd, hi1, hg1, hw, hle]; rfl)) rfl rfl fun K' k' => ?_; simp only [zz, reduceIte, Nat.reduceEqDiff, Nat.reduceLT, Nat.reduceLeDiff, Nat.reduceAdd, reduceCtorEq, Nat.reduceMul, ok9, sz9, ag9, e3, e4, hi, hg, encBd, hi1, hg1, hw, hle]; refine k' _ _ ?_; clear k' K')
            all_goals (refine D.g rfl trivial rfl rfl fun K' k' => ?_; simp only [zz, reduceIte, Nat.reduceEqDiff, Nat.reduceLT, Nat.reduceLeDiff, Nat.reduceAdd, reduceCtorEq, Nat.reduceMul, e3, e4, hi, hg, encBd, hi1, hg1, hw, hle]; refine PCalls.eqto (rname_spec _ (by assumption)) ?_; refine S.bool fun b a23 => ?_; cases b <;> (try (exfalso; first | exact Bool.noConfusion a23 | (have h := of_decide_eq_true a23; omega) | (have h := of_decide_eq_false a23; omega))) <;> (refine k' _ _ ?_; clear k' K'))
            all_goals iterate 2 (refine D.g rfl trivial rfl rfl fun K' k' => ?_; simp only [zz, reduceIte, Nat.reduceEqDiff, Nat.reduceAdd, e3, e4, hi, hg, encBd, hi1, hg1, hw, hle]; refine k' _ _ ?_; clear k' K')
            all_goals iterate 4 (first | (refine D.y rfl trivial rfl rfl rfl rfl fun K' k' => ?_; simp only [zz, reduceIte, Nat.reduceEqDiff, Nat.reduceLT, Nat.reduceLeDiff, Nat.reduceAdd, reduceCtorEq, Nat.reduceMul, sl22, el22, ok42, sz42, ag42, of42_0, e3, e4, hi, hg, encBd, hi1, hg1, hw, hle]; refine k' _ _ ?_; clear k' K') | ((first | refine D.x rfl (fun h => by cases h) rfl rfl rfl rfl fun K' k' => ?_ | refine D.u rfl (fun h => by cases h) rfl rfl rfl rfl fun K' k' => ?_); simp only [ze, reduceIte, Nat.reduceEqDiff]; refine k' _ _ ?_; clear k' K'))
            all_goals (first | (refine D.y rfl (by first | rfl | (simp only [stC, ze, reduceIte, Nat.reduceEqDiff, e3, e4, hi, hg, encBd, hi1, hg1, hw, hle]; done) | (simp only [stC, ze, reduceIte, Nat.reduceEqDiff, e3, e4, hi, hg, encBd, hi1, hg1, hw, hle]; rfl)) rfl rfl rfl rfl fun K' k' => ?_; simp only [zz, reduceIte, Nat.reduceEqDiff, Nat.reduceLT, Nat.reduceLeDiff, Nat.reduceAdd, reduceCtorEq, Nat.reduceMul, ok9, sz9, ag9, e3, e4, hi, hg, encBd, hi1, hg1, hw, hle]; refine k' _ _ ?_; clear k' K') | ((first | refine D.x rfl (fun _ => rfl) rfl rfl rfl rfl fun K' k' => ?_ | refine D.u rfl (fun _ => rfl) rfl rfl rfl rfl fun K' k' => ?_); simp only [ze, reduceIte, Nat.reduceEqDiff]; refine k' _ _ ?_; clear k' K'))
            all_goals (first | (refine D.y rfl trivial rfl rfl rfl rfl fun K' k' => ?_; simp only [zz, reduceIte, Nat.reduceEqDiff, Nat.reduceLT, Nat.reduceLeDiff, Nat.reduceAdd, reduceCtorEq, Nat.reduceMul, e3, e4, hi, hg, encBd, hi1, hg1, hw, hle]; refine S.bool fun b a31 => ?_; cases b <;> (try (exfalso; first | exact Bool.noConfusion a31 | (have h := of_decide_eq_true a31; omega) | (have h := of_decide_eq_false a31; omega))) <;> (refine k' _ _ ?_; clear k' K')) | ((first | refine D.x rfl (fun h => by cases h) rfl rfl rfl rfl fun K' k' => ?_ | refine D.u rfl (fun h => by cases h) rfl rfl rfl rfl fun K' k' => ?_); simp only [ze, reduceIte, Nat.reduceEqDiff]; refine k' _ _ ?_; clear k' K'))
            all_goals iterate 3 (first | (refine D.y rfl trivial rfl rfl rfl rfl fun K' k' => ?_; simp only [zz, reduceIte, Nat.reduceEqDiff, Nat.reduceLT, Nat.reduceLeDiff, Nat.reduceAdd, reduceCtorEq, Nat.reduceMul, sl22, el22, ok42, sz42, ag42, e3, e4, hi, hg, encBd, hi1, hg1, hw, hle]; refine k' _ _ ?_; clear k' K') | ((first | refine D.x rfl (fun h => by cases h) rfl rfl rfl rfl fun K' k' => ?_ | refine D.u rfl (fun h => by cases h) rfl rfl rfl rfl fun K' k' => ?_); simp only [ze, reduceIte, Nat.reduceEqDiff]; refine k' _ _ ?_; clear k' K'))
            all_goals (first | (refine D.y rfl trivial rfl rfl rfl rfl fun K' k' => ?_; simp only [zz, reduceIte, Nat.reduceEqDiff, Nat.reduceLT, Nat.reduceLeDiff, Nat.reduceAdd, reduceCtorEq, Nat.reduceMul, e3, e4, hi, hg, encBd, hi1, hg1, hw, hle]; refine S.bool fun b a35 => ?_; cases b <;> (try (exfalso; first | exact Bool.noConfusion a35 | (have h := of_decide_eq_true a35; omega) | (have h := of_decide_eq_false a35; omega))) <;> (refine k' _ _ ?_; clear k' K')) | ((first | refine D.x rfl (fun h => by cases h) rfl rfl rfl rfl fun K' k' => ?_ | refine D.u rfl (fun h => by cases h) rfl rfl rfl rfl fun K' k' => ?_); simp only [ze, reduceIte, Nat.reduceEqDiff]; refine k' _ _ ?_; clear k' K'))
            all_goals (first | (refine D.y rfl trivial rfl rfl rfl rfl fun K' k' => ?_; simp only [zz, reduceIte, Nat.reduceEqDiff, Nat.reduceAdd, e3, e4, hi, hg, encBd, hi1, hg1, hw, hle]; refine k' _ _ ?_; clear k' K') | ((first | refine D.x rfl (fun h => by cases h) rfl rfl rfl rfl fun K' k' => ?_ | refine D.u rfl (fun h => by cases h) rfl rfl rfl rfl fun K' k' => ?_); simp only [ze, reduceIte, Nat.reduceEqDiff]; refine k' _ _ ?_; clear k' K'))
            all_goals iterate 2 (refine D.g rfl trivial rfl rfl fun K' k' => ?_; simp only [zz, reduceIte, Nat.reduceEqDiff, Nat.reduceAdd, e3, e4, hi, hg, encBd, hi1, hg1, hw, hle]; refine k' _ _ ?_; clear k' K')
            all_goals (first | (refine D.y rfl trivial rfl rfl rfl rfl fun K' k' => ?_; simp only [zz, reduceIte, Nat.reduceEqDiff, Nat.reduceAdd, e3, e4, hi, hg, encBd, hi1, hg1, hw, hle]; refine k' _ _ ?_; clear k' K') | ((first | refine D.x rfl (fun h => by cases h) rfl rfl rfl rfl fun K' k' => ?_ | refine D.u rfl (fun h => by cases h) rfl rfl rfl rfl fun K' k' => ?_); simp only [ze, reduceIte, Nat.reduceEqDiff]; refine k' _ _ ?_; clear k' K'))
            all_goals (first | (refine D.y rfl trivial rfl rfl rfl rfl fun K' k' => ?_; simp only [zz, reduceIte, Nat.reduceEqDiff, Nat.reduceLT, Nat.reduceLeDiff, Nat.reduceAdd, reduceCtorEq, Nat.reduceMul, e3, e4, hi, hg, encBd, hi1, hg1, hw, hle]; refine S.bool fun b a40 => ?_; cases b <;> (try (exfalso; first | exact Bool.noConfusion a40 | (have h := of_decide_eq_true a40; omega) | (have h := of_decide_eq_false a40; omega))) <;> (refine k' _ _ ?_; clear k' K')) | ((first | refine D.x rfl (fun h => by cases h) rfl rfl rfl rfl fun K' k' => ?_ | refine D.u rfl (fun h => by cases h) rfl rfl rfl rfl fun K' k' => ?_); simp only [ze, reduceIte, Nat.reduceEqDiff]; refine k' _ _ ?_; clear k' K'))
            all_goals iterate 10 (first | (refine D.y rfl trivial rfl rfl rfl rfl fun K' k' => ?_; simp only [zz, reduceIte, Nat.reduceEqDiff, Nat.reduceLT, Nat.reduceLeDiff, Nat.reduceAdd, reduceCtorEq, Nat.reduceMul, sl22, el22, ok42, sz42, ag42, of42_0, e3, e4, hi, hg, encBd, hi1, hg1, hw, hle]; refine k' _ _ ?_; clear k' K') | ((first | refine D.x rfl (fun h => by cases h) rfl rfl rfl rfl fun K' k' => ?_ | refine D.u rfl (fun h => by cases h) rfl rfl rfl rfl fun K' k' => ?_); simp only [ze, reduceIte, Nat.reduceEqDiff]; refine k' _ _ ?_; clear k' K'))
            all_goals iterate 2 (first | (refine D.y rfl (by first | rfl | (simp only [stC, ze, reduceIte, Nat.reduceEqDiff, e3, e4, hi, hg, encBd, hi1, hg1, hw, hle]; done) | (simp only [stC, ze, reduceIte, Nat.reduceEqDiff, e3, e4, hi, hg, encBd, hi1, hg1, hw, hle]; rfl)) rfl rfl rfl rfl fun K' k' => ?_; simp only [zz, reduceIte, Nat.reduceEqDiff, Nat.reduceLT, Nat.reduceLeDiff, Nat.reduceAdd, reduceCtorEq, Nat.reduceMul, ok9, sz9, ag9, e3, e4, hi, hg, encBd, hi1, hg1, hw, hle]; refine k' _ _ ?_; clear k' K') | ((first | refine D.x rfl (fun _ => rfl) rfl rfl rfl rfl fun K' k' => ?_ | refine D.u rfl (fun _ => rfl) rfl rfl rfl rfl fun K' k' => ?_); simp only [ze, reduceIte, Nat.reduceEqDiff]; refine k' _ _ ?_; clear k' K'))
            all_goals iterate 2 (first | (refine D.y rfl trivial rfl rfl rfl rfl fun K' k' => ?_; simp only [zz, reduceIte, Nat.reduceEqDiff, Nat.reduceAdd, e3, e4, hi, hg, encBd, hi1, hg1, hw, hle]; refine k' _ _ ?_; clear k' K') | ((first | refine D.x rfl (fun h => by cases h) rfl rfl rfl rfl fun K' k' => ?_ | refine D.u rfl (fun h => by cases h) rfl rfl rfl rfl fun K' k' => ?_); simp only [ze, reduceIte, Nat.reduceEqDiff]; refine k' _ _ ?_; clear k' K'))
            all_goals (refine D.g rfl trivial rfl rfl fun K' k' => ?_; simp only [zz, reduceIte, Nat.reduceEqDiff, Nat.reduceAdd, e3, e4, hi, hg, encBd, hi1, hg1, hw, hle]; refine k' _ _ ?_; clear k' K')
            all_goals refine D.nil ?_
            all_goals simp only [ze, reduceIte, Nat.reduceEqDiff, Nat.reduceLT, Nat.reduceLeDiff, Nat.reduceAdd, reduceCtorEq, Nat.reduceMul, e3, e4, hi, hg, encBd, hi1, hg1, hw, hle]
            all_goals clear hpb hg hn2 hn1 hc hg1 hw hle hq
            all_goals cases q
            all_goals (try simp only [beq_eq_false_iff_ne, decide_eq_true_eq, decide_eq_false_iff_not, beq_iff_eq, ne_eq, Bool.not_eq_true', Bool.not_eq_false', bne_iff_ne, bne_eq_false_iff_eq] at *)
            all_goals (try simp only [V.c.injEq, Value.bool.injEq, Value.int.injEq, true_and, named, a23])
            all_goals first | done | rfl | omega | ((rw [Bool.eq_iff_iff]; simp only [beq_eq_false_iff_ne, decide_eq_true_eq, decide_eq_false_iff_not, beq_iff_eq, ne_eq, Bool.not_eq_true', Bool.not_eq_false', bne_iff_ne, bne_eq_false_iff_eq, Bool.false_or, Bool.true_or, Bool.or_false, Bool.or_true, Bool.false_and, Bool.and_false, Bool.true_and, Bool.and_true, Bool.not_true, Bool.not_false, Bool.or_eq_false_iff, Bool.and_eq_false_iff, Bool.or_eq_true, Bool.and_eq_true, Bool.false_eq_true, Bool.true_eq_false, true_iff, iff_true, false_iff, iff_false]) <;> omega)
        rintro s2 σ2 ⟨rfl, g3, g4, g55⟩
        refine AW.cond (b := _) g55 (fun hc => ?_) (fun hc => ?_)
        · refine AW.seq_k fun K11 h11 => ?_
          all_goals refine AW.reg0 ?_
          all_goals (refine S.g rfl rfl fun K' k' => ?_; simp only [zz, reduceIte, Nat.reduceEqDiff, Nat.reduceAdd]; refine k' _ _ ?_; clear k' K')
          all_goals refine S.nil ?_
          all_goals simp only [ze, reduceIte, Nat.reduceEqDiff, Nat.reduceLT, Nat.reduceLeDiff, Nat.reduceAdd, reduceCtorEq, Nat.reduceMul]
          all_goals apply_assumption
          refine AW.ret ?_
          all_goals simp only [zs, reduceIte, Nat.reduceEqDiff, Nat.reduceLT, Nat.reduceLeDiff, Nat.reduceAdd, reduceCtorEq, Nat.reduceMul]
          have hx : named l.length a = false ∨ (if i = 0 then none else (l[i-1]?).map (·.var)).any (leS a.var ·) = true ∨ (a.ev.src, a.ev.seq) ∈ (l.take i).map idOf := by
            simp only [Bool.or_eq_true, Bool.not_eq_true'] at hc
            rcases hc with h | h
            · exact .inl h
            · exact .inr (.inl h)
          simp only [partErr, if_neg h8, hp, hd, partFrom, if_pos hx, and_self]
        · refine AW.skip ?_
          all_goals simp only [zs, reduceIte, Nat.reduceEqDiff, Nat.reduceLT, Nat.reduceLeDiff, Nat.reduceAdd, reduceCtorEq, Nat.reduceMul]
          simp only [Bool.or_eq_false_iff, Bool.not_eq_false'] at hc
          exact ⟨g3, g4, hc.1, hc.2⟩
      rintro s2 σ2 ⟨rfl, g3, g4, hx1, hx2⟩
      refine AW.seq_j (fun s' σ' => σ' = Hp.empty ∧ s'.t 3 = .sl (l.map encBd) ∧ s'.t 4 = .c (.int .i64 i) ∧ (a.ev.src, a.ev.seq) ∉ (l.take i).map idOf) ?_ ?_
      · refine AW.seq_k fun K12 h12 => ?_
        all_goals refine AW.reg0 ?_
        all_goals (refine S.g rfl rfl fun K' k' => ?_; simp only [zz, reduceIte, Nat.reduceEqDiff, Nat.reduceAdd]; refine k' _ _ ?_; clear k' K')
        all_goals refine S.nil ?_
        all_goals simp only [ze, reduceIte, Nat.reduceEqDiff, Nat.reduceLT, Nat.reduceLeDiff, Nat.reduceAdd, reduceCtorEq, Nat.reduceMul]
        all_goals apply_assumption
        refine AW.block ?_   -- 2
        refine AW.loop (fun m s σ => σ = Hp.empty ∧ ∃ k : Nat, m + k = i ∧ s.t 3 = .sl (l.map encBd) ∧ s.t 4 = .c (.int .i64 i) ∧ s.t 5 = .c (.int .i64 k) ∧ (a.ev.src, a.ev.seq) ∉ (l.take k).map idOf) i ?_ ?_
        · refine ⟨rfl, 0, by simp, ?_⟩
          all_goals simp only [zs, reduceIte, Nat.reduceEqDiff, Nat.reduceLT, Nat.reduceLeDiff, Nat.reduceAdd, reduceCtorEq, Nat.reduceMul]
          exact ⟨g3, g4, rfl, by simp⟩
        rintro m2 s3 σ3 ⟨rfl, k, hm2, j3, j4, j5, hk⟩
        refine AW.seq_k fun K13 h13 => ?_
        refine AW.seq_k fun K14 h14 => ?_
        all_goals refine AW.reg0 ?_
        all_goals iterate 3 (refine S.g rfl rfl fun K' k' => ?_; simp only [zz, reduceIte, Nat.reduceEqDiff, Nat.reduceAdd, j4, j5]; refine k' _ _ ?_; clear k' K')
        all_goals refine S.nil ?_
        all_goals simp only [ze, reduceIte, Nat.reduceEqDiff, Nat.reduceLT, Nat.reduceLeDiff, Nat.reduceAdd, reduceCtorEq, Nat.reduceMul, j4, j5]
        all_goals apply_assumption
        refine AW.cond (b := decide ((k : Int) < i)) (by simp [ev]) (fun hc => ?_) (fun hc => ?_)
        · refine AW.skip ?_
          all_goals simp only [zs, reduceIte, Nat.reduceEqDiff, Nat.reduceLT, Nat.reduceLeDiff, Nat.reduceAdd, reduceCtorEq, Nat.reduceMul]
          all_goals apply_assumption
          have hki : k < i := by have := of_decide_eq_true hc; omega
          have hkl : k < l.length := by omega
          have hgk := getD_map (f := encBd) hkl
          have htkk : l.take (k + 1) = l.take k ++ [l[k]] := by rw [List.take_append_getElem]
          generalize hak : l[k] = b at hgk htkk
          refine AW.seq_k fun K15 h15 => ?_
          refine AW.block ?_   -- 3
          refine AW.seq_k fun K16 h16 => ?_
          all_goals refine AW.draw (T := { sd := fun _ => false, eqk := eqTab }) (eqTab_ok) mixedO [(0, 0), (1, 0), (2, 0), (3, 0), (4, 0), (6, 0), (7, 0), (8, 0), (9, 0), (10, 0), (5, 1), (11, 1), (12, 0)] rfl (by kernel_rfl) (by kernel_rfl) ?_
          all_goals iterate 10 (refine D.g rfl trivial rfl rfl fun K' k' => ?_; simp only [zz, reduceIte, Nat.reduceEqDiff, Nat.reduceLT, Nat.reduceLeDiff, Nat.reduceAdd, reduceCtorEq, Nat.reduceMul, sl22, el22, ok42, sz42, ag42, of42_1, of36_0, j3, j4, j5, hi, hg, hkl, hgk, encBd]; refine k' _ _ ?_; clear k' K')
          all_goals iterate 2 (refine D.g rfl (by first | rfl | (simp only [stC, ze, reduceIte, Nat.reduceEqDiff, j3, j4, j5, hi, hg, hkl, hgk, encBd]; done) | (simp only [stC, ze, reduceIte, Nat.reduceEqDiff, j3, j4, j5, hi, hg, hkl, hgk, encBd]; rfl)) rfl rfl fun K' k' => ?_; simp only [zz, reduceIte, Nat.reduceEqDiff, Nat.reduceLT, Nat.reduceLeDiff, Nat.reduceAdd, reduceCtorEq, Nat.reduceMul, ok33, sz33, ag33, j3, j4, j5, hi, hg, hkl, hgk, encBd]; refine k' _ _ ?_; clear k' K')
          all_goals (refine D.g rfl trivial rfl rfl fun K' k' => ?_; simp only [zz, reduceIte, Nat.reduceEqDiff, Nat.reduceAdd, eqk33, fitsAll, SK.fits, cellsEq, cellEq, j3, j4, j5, hi, hg, hkl, hgk, encBd]; refine k' _ _ ?_; clear k' K')
          all_goals refine D.nil ?_
          all_goals simp only [ze, reduceIte, Nat.reduceEqDiff, Nat.reduceLT, Nat.reduceLeDiff, Nat.reduceAdd, reduceCtorEq, Nat.reduceMul, j3, j4, j5, hi, hg, hkl, hgk, encBd]
          all_goals apply_assumption
          refine AW.cond (b := _) (by simp only [ev, St.put_t, Nat.reduceEqDiff, if_true]; rfl) (fun hc => ?_) (fun hc => ?_)
          · refine AW.seq_k fun K17 h17 => ?_
            all_goals refine AW.reg0 ?_
            all_goals (refine S.g rfl rfl fun K' k' => ?_; simp only [zz, reduceIte, Nat.reduceEqDiff, Nat.reduceAdd]; refine k' _ _ ?_; clear k' K')
            all_goals refine S.nil ?_
            all_goals simp only [ze, reduceIte, Nat.reduceEqDiff, Nat.reduceLT, Nat.reduceLeDiff, Nat.reduceAdd, reduceCtorEq, Nat.reduceMul]
            all_goals apply_assumption
            refine AW.ret ?_
            all_goals simp only [zs, reduceIte, Nat.reduceEqDiff, Nat.reduceLT, Nat.reduceLeDiff, Nat.reduceAdd, reduceCtorEq, Nat.reduceMul]
            have hx : named l.length a = false ∨ (if i = 0 then none else (l[i-1]?).map (·.var)).any (leS a.var ·) = true ∨ (a.ev.src, a.ev.seq) ∈ (l.take i).map idOf := by
              refine .inr (.inr (List.mem_map.2 ⟨b, ?_, ?_⟩))
              · rw [← hak, ← List.getElem_take (j := i) (h := by rw [List.length_take]; omega)]
                exact List.getElem_mem _
              · simp only [Bool.and_eq_true, beq_iff_eq] at hc
                simp [idOf, hc.1, hc.2]
            simp only [partErr, if_neg h8, hp, hd, partFrom, if_pos hx, and_self]
          · refine AW.skip ?_
            all_goals simp only [zs, reduceIte, Nat.reduceEqDiff, Nat.reduceLT, Nat.reduceLeDiff, Nat.reduceAdd, reduceCtorEq, Nat.reduceMul]
            all_goals apply_assumption
            have hw : IntKind.i64.wrap ((k : Int) + 1) = ((k + 1 : Nat) : Int) := by rw [wrap_small _ (by omega) (by omega)]; rfl
            all_goals refine AW.reg0 ?_
            all_goals iterate 3 (refine S.g rfl rfl fun K' k' => ?_; simp only [zz, reduceIte, Nat.reduceEqDiff, Nat.reduceAdd, j5, hw]; refine k' _ _ ?_; clear k' K')
            all_goals refine S.nil ?_
            all_goals simp only [ze, reduceIte, Nat.reduceEqDiff, Nat.reduceLT, Nat.reduceLeDiff, Nat.reduceAdd, reduceCtorEq, Nat.reduceMul, j5, hw]
            refine ⟨m2 - 1, by omega, k + 1, by omega, j3, j4, rfl, ?_⟩
            rw [htkk, List.map_append, List.mem_append]
            rintro (h | h)
            · exact hk h
            · simp only [List.map_cons, List.map_nil, List.mem_singleton, idOf, Prod.mk.injEq] at h
              rw [h.1, h.2] at hc
              simp at hc
        · refine AW.exit ?_
          all_goals simp only [zs, reduceIte, Nat.reduceEqDiff, Nat.reduceLT, Nat.reduceLeDiff, Nat.reduceAdd, reduceCtorEq, Nat.reduceMul]
          have hki : k = i := by have := of_decide_eq_false hc; omega
          subst hki
          exact ⟨j3, j4, hk⟩
      rintro s3 σ3 ⟨rfl, j3, j4, hx3⟩
      have hx : ¬ (named l.length a = false ∨ (if i = 0 then none else (l[i-1]?).map (·.var)).any (leS a.var ·) = true ∨ (a.ev.src, a.ev.seq) ∈ (l.take i).map idOf) := by
        rintro (h | h | h)
        · rw [hx1] at h; cases h
        · rw [hx2] at h; cases h
        · exact hx3 h
      refine AW.seq_k fun K18 h18 => ?_
      all_goals refine AW.reg0 ?_
      all_goals iterate 5 (refine S.g rfl rfl fun K' k' => ?_; simp only [zz, reduceIte, Nat.reduceEqDiff, Nat.reduceLT, Nat.reduceLeDiff, Nat.reduceAdd, reduceCtorEq, Nat.reduceMul, sl22, el22, ok42, sz42, ag42, of42_1, ok36, sz36, ag36, j3, j4, hi, hg, encBd]; refine k' _ _ ?_; clear k' K')
      all_goals (refine S.g rfl rfl fun K' k' => ?_; simp only [zz, reduceIte, Nat.reduceEqDiff, Nat.reduceLT, Nat.reduceLeDiff, Nat.reduceAdd, reduceCtorEq, Nat.reduceMul, j3, j4, hi, hg, encBd]; refine PCalls.eqto (rcheck_ev _ (by assumption)) ?_ <;> (refine k' _ _ ?_; clear k' K'))
      all_goals (refine S.g rfl rfl fun K' k' => ?_; simp only [zz, reduceIte, Nat.reduceEqDiff, Nat.reduceAdd, j3, j4, hi, hg, encBd]; refine k' _ _ ?_; clear k' K')
      all_goals refine S.nil ?_
      all_goals simp only [ze, reduceIte, Nat.reduceEqDiff, Nat.reduceLT, Nat.reduceLeDiff, Nat.reduceAdd, reduceCtorEq, Nat.reduceMul, j3, j4, hi, hg, encBd]
      all_goals apply_assumption
      refine AW.seq_k fun K19 h19 => ?_
      all_goals refine AW.reg0 ?_
      all_goals iterate 2 (refine S.g rfl rfl fun K' k' => ?_; simp only [zz, reduceIte, Nat.reduceEqDiff, Nat.reduceAdd]; refine k' _ _ ?_; clear k' K')
      all_goals refine S.nil ?_
      all_goals simp only [ze, reduceIte, Nat.reduceEqDiff, Nat.reduceLT, Nat.reduceLeDiff, Nat.reduceAdd, reduceCtorEq, Nat.reduceMul]
      all_goals apply_assumption
      refine AW.cond (b := evErr a.ev != 0) (by simp [ev]) (fun hc => ?_) (fun hc => ?_)
      · refine AW.seq_k fun K20 h20 => ?_
        all_goals refine AW.reg0 ?_
        all_goals iterate 2 (refine S.g rfl rfl fun K' k' => ?_; simp only [zz, reduceIte, Nat.reduceEqDiff, Nat.reduceAdd]; refine k' _ _ ?_; clear k' K')
        all_goals refine S.nil ?_
        all_goals simp only [ze, reduceIte, Nat.reduceEqDiff, Nat.reduceLT, Nat.reduceLeDiff, Nat.reduceAdd, reduceCtorEq, Nat.reduceMul]
        all_goals apply_assumption
        refine AW.ret ?_
        all_goals simp only [zs, reduceIte, Nat.reduceEqDiff, Nat.reduceLT, Nat.reduceLeDiff, Nat.reduceAdd, reduceCtorEq, Nat.reduceMul]
        have hy : evErr a.ev ≠ 0 := by simpa using hc
        simp only [partErr, if_neg h8, hp, hd, partFrom, if_neg hx, if_pos hy, and_self]
      · refine AW.skip ?_
        all_goals simp only [zs, reduceIte, Nat.reduceEqDiff, Nat.reduceLT, Nat.reduceLeDiff, Nat.reduceAdd, reduceCtorEq, Nat.reduceMul]
        all_goals apply_assumption
        have hy : evErr a.ev = 0 := by simpa using hc
        have hw : IntKind.i64.wrap ((i : Int) + 1) = ((i + 1 : Nat) : Int) := by rw [wrap_small _ (by omega) (by omega)]; rfl
        all_goals refine AW.reg0 ?_
        all_goals iterate 3 (refine S.g rfl rfl fun K' k' => ?_; simp only [zz, reduceIte, Nat.reduceEqDiff, Nat.reduceAdd, j4, hw]; refine k' _ _ ?_; clear k' K')
        all_goals refine S.nil ?_
        all_goals simp only [ze, reduceIte, Nat.reduceEqDiff, Nat.reduceLT, Nat.reduceLeDiff, Nat.reduceAdd, reduceCtorEq, Nat.reduceMul, j4, hw]
        refine ⟨m - 1, by omega, i + 1, by omega, j3, rfl, ?_⟩
        rw [hp, hd, partFrom, if_neg hx, if_neg (fun e => e hy), htk]
        simp [ha, hi, idOf]
    · refine AW.exit ?_
      all_goals simp only [zs, reduceIte, Nat.reduceEqDiff, Nat.reduceLT, Nat.reduceLeDiff, Nat.reduceAdd, reduceCtorEq, Nat.reduceMul]
      -- EXIT 0
      all_goals apply_assumption
      refine AW.seq_k fun K21 h21 => ?_
      all_goals refine AW.reg0 ?_
      all_goals (refine S.g rfl rfl fun K' k' => ?_; simp only [zz, reduceIte, Nat.reduceEqDiff, Nat.reduceAdd]; refine k' _ _ ?_; clear k' K')
      all_goals refine S.nil ?_
      all_goals simp only [ze, reduceIte, Nat.reduceEqDiff, Nat.reduceLT, Nat.reduceLeDiff, Nat.reduceAdd, reduceCtorEq, Nat.reduceMul]
      all_goals apply_assumption
      refine AW.ret ?_
      all_goals simp only [zs, reduceIte, Nat.reduceEqDiff, Nat.reduceLT, Nat.reduceLeDiff, Nat.reduceAdd, reduceCtorEq, Nat.reduceMul]
      have hi : l.length ≤ i := by simpa using hc
      have h8 : ¬ 12 < l.length := by omega
      simp [partErr, h8, hp, List.drop_of_length_le hi, partFrom]
end Go.Abs.M
namespace Go.Abs.M
open Go Go.Abs Go.Proofs
set_option maxRecDepth 20000
set_option linter.unusedSimpArgs false
set_option linter.unusedVariables false
theorem rclone_ev (e : Ev) (hl : e.attrs.length * 48 ≤ 140737488355328) : PCalls Try.prog 76 [.agg (encEv e)] (fun r => r = .agg (encEv e)) := by
  refine PCalls.intro Try.call76 Try.func76 rfl Try.ntmps76 Try.results76 (by simp) ?_
  refine AW.seq_k fun K1 h1 => ?_
  all_goals refine AW.reg0 ?_
  all_goals iterate 2 (refine S.g rfl rfl fun K' k' => ?_; simp only [zz, reduceIte, Nat.reduceEqDiff, Nat.reduceLT, Nat.reduceLeDiff, Nat.reduceAdd, reduceCtorEq, Nat.reduceMul, ok36, sz36, ag36, zt36, encEv]; refine k' _ _ ?_; clear k' K')
  all_goals refine S.nil ?_
  all_goals simp only [ze, reduceIte, Nat.reduceEqDiff, Nat.reduceLT, Nat.reduceLeDiff, Nat.reduceAdd, reduceCtorEq, Nat.reduceMul, encEv]
  all_goals apply_assumption
  refine AW.seq_k fun K2 h2 => ?_
  all_goals refine AW.reg0 ?_
  all_goals iterate 2 (refine S.g rfl rfl fun K' k' => ?_; simp only [zz, reduceIte, Nat.reduceEqDiff, Nat.reduceLT, Nat.reduceLeDiff, Nat.reduceAdd, reduceCtorEq, Nat.reduceMul, of36_3, ok34, sz34, ag34]; refine k' _ _ ?_; clear k' K')
  all_goals (refine S.g rfl rfl fun K' k' => ?_; simp only [zz, reduceIte, Nat.reduceEqDiff, Nat.reduceLT, Nat.reduceLeDiff, Nat.reduceAdd, reduceCtorEq, Nat.reduceMul, sl34, el34, ok143, sz143, ag143, zt143, by143]; refine ⟨len_attr _, by unfold maxLen; omega, by unfold reach; omega, fun k2 hk2 => ?_⟩ <;> (refine k' _ _ ?_; clear k' K'))
  all_goals iterate 2 (refine S.g rfl rfl fun K' k' => ?_; simp only [zz, reduceIte, Nat.reduceEqDiff, Nat.reduceLT, Nat.reduceLeDiff, Nat.reduceAdd, reduceCtorEq, Nat.reduceMul, of36_3, ok34, sz34, ag34]; refine k' _ _ ?_; clear k' K')
  all_goals refine S.nil ?_
  all_goals simp only [ze, reduceIte, Nat.reduceEqDiff, Nat.reduceLT, Nat.reduceLeDiff, Nat.reduceAdd, reduceCtorEq, Nat.reduceMul]
  all_goals apply_assumption
  refine AW.seq_k fun K3 h3 => ?_
  all_goals refine AW.reg0 ?_
  all_goals iterate 2 (refine S.g rfl rfl fun K' k' => ?_; simp only [zz, reduceIte, Nat.reduceEqDiff, Nat.reduceLT, Nat.reduceLeDiff, Nat.reduceAdd, reduceCtorEq, Nat.reduceMul, ok36, sz36, ag36]; refine k' _ _ ?_; clear k' K')
  all_goals refine S.nil ?_
  all_goals simp only [ze, reduceIte, Nat.reduceEqDiff, Nat.reduceLT, Nat.reduceLeDiff, Nat.reduceAdd, reduceCtorEq, Nat.reduceMul]
  all_goals apply_assumption
  refine AW.freeze (k := k2) (T := (143, 4)) (es := e.attrs.map encAttr) (by simp only [Hp.setGr_gr, if_true]) (AW.bare (AW.ret ?_))
  all_goals simp only [zs, reduceIte, Nat.reduceEqDiff, Nat.reduceLT, Nat.reduceLeDiff, Nat.reduceAdd, reduceCtorEq, Nat.reduceMul, qLoad, ok36, sz36, ag36, cut, List.drop_zero, List.take_succ_cons, List.take_zero, fzV, fz1, St.fz_t, St.fz_l, Option.map_some, List.map]
  simp only [List.map, wk1, encEv]
theorem rclone_part (l : List Bd) (hl : ∀ b ∈ l, b.ev.attrs.length * 48 ≤ 140737488355328) (hn : l.length * 80 ≤ 140737488355328) : PCalls Try.prog 66 [.agg [.sl (l.map encBd)]] (fun r => r = .agg [.sl (l.map encBd)]) := by
  refine PCalls.intro Try.call66 Try.func66 rfl Try.ntmps66 Try.results66 (by simp) ?_
  refine AW.seq_k fun K1 h1 => ?_
  all_goals refine AW.reg0 ?_
  all_goals iterate 2 (refine S.g rfl rfl fun K' k' => ?_; simp only [zz, reduceIte, Nat.reduceEqDiff, Nat.reduceLT, Nat.reduceLeDiff, Nat.reduceAdd, reduceCtorEq, Nat.reduceMul, ok24, sz24, ag24, zt24]; refine k' _ _ ?_; clear k' K')
  all_goals refine S.nil ?_
  all_goals simp only [ze, reduceIte, Nat.reduceEqDiff, Nat.reduceLT, Nat.reduceLeDiff, Nat.reduceAdd, reduceCtorEq, Nat.reduceMul]
  all_goals apply_assumption
  refine AW.seq_k fun K2 h2 => ?_
  all_goals refine AW.reg0 ?_
  all_goals (refine S.g rfl rfl fun K' k' => ?_; simp only [zz, reduceIte, Nat.reduceEqDiff, Nat.reduceAdd]; refine k' _ _ ?_; clear k' K')
  all_goals refine S.nil ?_
  all_goals simp only [ze, reduceIte, Nat.reduceEqDiff, Nat.reduceLT, Nat.reduceLeDiff, Nat.reduceAdd, reduceCtorEq, Nat.reduceMul]
  all_goals apply_assumption
  refine AW.seq_k fun K3 h3 => ?_
  refine AW.seq_k fun K4 h4 => ?_
  all_goals refine AW.reg0 ?_
  all_goals (refine S.g rfl rfl fun K' k' => ?_; simp only [zz, reduceIte, Nat.reduceEqDiff, Nat.reduceAdd]; refine k' _ _ ?_; clear k' K')
  all_goals refine S.nil ?_
  all_goals simp only [ze, reduceIte, Nat.reduceEqDiff, Nat.reduceLT, Nat.reduceLeDiff, Nat.reduceAdd, reduceCtorEq, Nat.reduceMul]
  all_goals apply_assumption
  refine AW.block ?_   -- 0
  refine AW.loop (fun m s σ => ∃ i : Nat, m + i = l.length ∧ s.t 1 = .lp 1 0 ∧ s.l 1 = some [.sl (l.map encBd)] ∧ s.t 2 = .lp 2 0 ∧ s.l 2 = some [.c (.slice none 0 0)] ∧ s.t 4 = .c (.int .i64 i) ∧
    ((i = 0 ∧ s.t 3 = .c (.slice none 0 0) ∧ σ = Hp.empty) ∨ ∃ k, s.t 3 = .gl k ∧ σ = Hp.empty.setGr k (some ((42, 6), (l.take i).map encBd)))) l.length ?_ ?_
  · refine ⟨0, by simp, ?_⟩
    all_goals simp only [zs, reduceIte, Nat.reduceEqDiff, Nat.reduceLT, Nat.reduceLeDiff, Nat.reduceAdd, reduceCtorEq, Nat.reduceMul]
    simp
  rintro m s σ ⟨i, hm, e1, l1, e2, l2, e4, hk⟩
  refine AW.seq_k fun K5 h5 => ?_
  refine AW.seq_k fun K6 h6 => ?_
  all_goals refine AW.reg0 ?_
  all_goals iterate 5 (refine S.g rfl rfl fun K' k' => ?_; simp only [zz, reduceIte, Nat.reduceEqDiff, Nat.reduceLT, Nat.reduceLeDiff, Nat.reduceAdd, reduceCtorEq, Nat.reduceMul, of24_0, ok22, sz22, ag22, sl22, el22, ok42, sz42, ag42, e1, l1, e4]; refine k' _ _ ?_; clear k' K')
  all_goals refine S.nil ?_
  all_goals simp only [ze, reduceIte, Nat.reduceEqDiff, Nat.reduceLT, Nat.reduceLeDiff, Nat.reduceAdd, reduceCtorEq, Nat.reduceMul, e1, l1, e4]
  all_goals apply_assumption
  refine AW.cond (b := decide (i < l.length)) (by simp [ev]) (fun hc => ?_) (fun hc => ?_)
  · refine AW.skip ?_
    all_goals simp only [zs, reduceIte, Nat.reduceEqDiff, Nat.reduceLT, Nat.reduceLeDiff, Nat.reduceAdd, reduceCtorEq, Nat.reduceMul]
    all_goals apply_assumption
    have hi : i < l.length := by simpa using hc
    have hg := getD_map (f := encBd) hi
    have htk : l.take (i + 1) = l.take i ++ [l[i]] := by rw [List.take_append_getElem]
    have hmem := hl _ (List.getElem_mem hi)
    generalize ha : l[i] = a at hg htk hmem
    have hw : IntKind.i64.wrap ((i : Int) + 1) = ((i + 1 : Nat) : Int) := by rw [wrap_small _ (by omega) (by omega)]; rfl
    refine AW.seq_k fun K7 h7 => ?_
    refine AW.block ?_   -- 1
    rcases hk with ⟨rfl, e3, rfl⟩ | ⟨k, e3, rfl⟩
    · skip
      all_goals refine AW.draw (T := { sd := fun d => d == 1 }) (fun _ _ h => by cases h) mixedO [(0, 0), (1, 0), (3, 0), (7, 0), (9, 0), (2, 1), (4, 0), (5, 0), (6, 1), (8, 1), (10, 0), (11, 0), (12, 1), (13, 2), (14, 0), (15, 2), (16, 2), (17, 0)] rfl (by kernel_rfl) (by kernel_rfl) ?_
      all_goals iterate 5 (refine D.g rfl trivial rfl rfl fun K' k' => ?_; simp only [zz, reduceIte, Nat.reduceEqDiff, Nat.reduceLT, Nat.reduceLeDiff, Nat.reduceAdd, reduceCtorEq, Nat.reduceMul, of24_0, e3, e1, l1, e4, hi, hg, encBd, encEv]; refine k' _ _ ?_; clear k' K')
      all_goals (refine D.g rfl (by first | rfl | (simp only [stC, ze, reduceIte, Nat.reduceEqDiff, e3, e1, l1, e4, hi, hg, encBd, encEv]; done) | (simp only [stC, ze, reduceIte, Nat.reduceEqDiff, e3, e1, l1, e4, hi, hg, encBd, encEv]; rfl)) rfl rfl fun K' k' => ?_; simp only [zz, reduceIte, Nat.reduceEqDiff, Nat.reduceLT, Nat.reduceLeDiff, Nat.reduceAdd, reduceCtorEq, Nat.reduceMul, ok22, sz22, ag22, e3, e1, l1, e4, hi, hg, encBd, encEv]; refine k' _ _ ?_; clear k' K')
      all_goals iterate 2 (refine D.g rfl trivial rfl rfl fun K' k' => ?_; simp only [zz, reduceIte, Nat.reduceEqDiff, Nat.reduceLT, Nat.reduceLeDiff, Nat.reduceAdd, reduceCtorEq, Nat.reduceMul, sl22, el22, ok42, sz42, ag42, of42_0, e3, e1, l1, e4, hi, hg, encBd, encEv]; refine k' _ _ ?_; clear k' K')
      all_goals iterate 2 (refine D.g rfl (by first | rfl | (simp only [stC, ze, reduceIte, Nat.reduceEqDiff, e3, e1, l1, e4, hi, hg, encBd, encEv]; done) | (simp only [stC, ze, reduceIte, Nat.reduceEqDiff, e3, e1, l1, e4, hi, hg, encBd, encEv]; rfl)) rfl rfl fun K' k' => ?_; simp only [zz, reduceIte, Nat.reduceEqDiff, Nat.reduceLT, Nat.reduceLeDiff, Nat.reduceAdd, reduceCtorEq, Nat.reduceMul, ok9, sz9, ag9, ok22, sz22, ag22, e3, e1, l1, e4, hi, hg, encBd, encEv]; refine k' _ _ ?_; clear k' K')
      all_goals iterate 2 (refine D.g rfl trivial rfl rfl fun K' k' => ?_; simp only [zz, reduceIte, Nat.reduceEqDiff, Nat.reduceLT, Nat.reduceLeDiff, Nat.reduceAdd, reduceCtorEq, Nat.reduceMul, sl22, el22, ok42, sz42, ag42, of42_1, e3, e1, l1, e4, hi, hg, encBd, encEv]; refine k' _ _ ?_; clear k' K')
      all_goals (refine D.g rfl (by first | rfl | (simp only [stC, ze, reduceIte, Nat.reduceEqDiff, e3, e1, l1, e4, hi, hg, encBd, encEv]; done) | (simp only [stC, ze, reduceIte, Nat.reduceEqDiff, e3, e1, l1, e4, hi, hg, encBd, encEv]; rfl)) rfl rfl fun K' k' => ?_; simp only [zz, reduceIte, Nat.reduceEqDiff, Nat.reduceLT, Nat.reduceLeDiff, Nat.reduceAdd, reduceCtorEq, Nat.reduceMul, ok36, sz36, ag36, e3, e1, l1, e4, hi, hg, encBd, encEv]; refine k' _ _ ?_; clear k' K')
      all_goals (refine D.g rfl trivial rfl rfl fun K' k' => ?_; simp only [zz, reduceIte, Nat.reduceEqDiff, Nat.reduceLT, Nat.reduceLeDiff, Nat.reduceAdd, reduceCtorEq, Nat.reduceMul, e3, e1, l1, e4, hi, hg, encBd, encEv]; refine PCalls.eqto (rclone_ev _ (by assumption)) ?_ <;> (refine k' _ _ ?_; clear k' K'))
      all_goals (refine D.g rfl trivial rfl rfl fun K' k' => ?_; simp only [zz, reduceIte, Nat.reduceEqDiff, Nat.reduceLT, Nat.reduceLeDiff, Nat.reduceAdd, reduceCtorEq, Nat.reduceMul, zt42, pl42, e3, e1, l1, e4, hi, hg, encBd, encEv]; refine k' _ _ ?_; clear k' K')
      all_goals (refine D.g rfl trivial rfl rfl fun K' k' => ?_; simp only [zb, reduceIte, Nat.reduceEqDiff, Nat.reduceLT, Nat.reduceLeDiff, Nat.reduceAdd, reduceCtorEq, Nat.reduceMul, sl22, el22, ok42, sz42, ag42, zt42, by42, e3, e1, l1, e4, hi, hg, encBd, encEv]; refine k' _ _ ?_; clear k' K')
      all_goals (refine D.g rfl trivial rfl rfl fun K' k' => ?_; simp only [zz, reduceIte, Nat.reduceEqDiff, Nat.reduceLT, Nat.reduceLeDiff, Nat.reduceAdd, reduceCtorEq, Nat.reduceMul, sl22, el22, ok42, sz42, ag42, zt42, by42, e3, e1, l1, e4, hi, hg, encBd, encEv]; refine ⟨len_bd [a], by unfold maxLen; omega, by unfold reach; omega, fun k2 hk2 => ?_⟩ <;> (refine k' _ _ ?_; clear k' K'))
      all_goals (refine D.g rfl trivial rfl rfl fun K' k' => ?_; simp only [zz, reduceIte, Nat.reduceEqDiff, Nat.reduceAdd, e3, e1, l1, e4, hi, hg, encBd, encEv]; refine k' _ _ ?_; clear k' K')
      all_goals refine D.nil ?_
      all_goals simp only [ze, reduceIte, Nat.reduceEqDiff, Nat.reduceLT, Nat.reduceLeDiff, Nat.reduceAdd, reduceCtorEq, Nat.reduceMul, e3, e1, l1, e4, hi, hg, encBd, encEv]
      all_goals apply_assumption
      all_goals refine AW.reg0 ?_
      all_goals iterate 3 (refine S.g rfl rfl fun K' k' => ?_; simp only [zz, reduceIte, Nat.reduceEqDiff, Nat.reduceAdd, e4, hw, e1, e2, l1, l2]; refine k' _ _ ?_; clear k' K')
      all_goals refine S.nil ?_
      all_goals simp only [ze, reduceIte, Nat.reduceEqDiff, Nat.reduceLT, Nat.reduceLeDiff, Nat.reduceAdd, reduceCtorEq, Nat.reduceMul, e4, hw, e1, e2, l1, l2]
      refine ⟨m - 1, by omega, 1, by omega, rfl, .inr ⟨k2, rfl, ?_⟩⟩
      rw [show l.take 1 = [] ++ [a] from htk]; rfl
    · have htl : (l.take i).length = i := by rw [List.length_take]; omega
      all_goals refine AW.draw (T := { sd := fun d => d == 1 }) (fun _ _ h => by cases h) mixedO [(0, 0), (1, 0), (3, 0), (7, 0), (9, 0), (2, 1), (4, 0), (5, 0), (6, 1), (8, 1), (10, 0), (11, 0), (12, 1), (13, 2), (14, 0), (15, 2), (16, 2), (17, 0)] rfl (by kernel_rfl) (by kernel_rfl) ?_
      all_goals iterate 5 (refine D.g rfl trivial rfl rfl fun K' k' => ?_; simp only [zz, reduceIte, Nat.reduceEqDiff, Nat.reduceLT, Nat.reduceLeDiff, Nat.reduceAdd, reduceCtorEq, Nat.reduceMul, of24_0, e3, e1, l1, e4, hi, hg, encBd, encEv, htl]; refine k' _ _ ?_; clear k' K')
      all_goals (refine D.g rfl (by first | rfl | (simp only [stC, ze, reduceIte, Nat.reduceEqDiff, e3, e1, l1, e4, hi, hg, encBd, encEv, htl]; done) | (simp only [stC, ze, reduceIte, Nat.reduceEqDiff, e3, e1, l1, e4, hi, hg, encBd, encEv, htl]; rfl)) rfl rfl fun K' k' => ?_; simp only [zz, reduceIte, Nat.reduceEqDiff, Nat.reduceLT, Nat.reduceLeDiff, Nat.reduceAdd, reduceCtorEq, Nat.reduceMul, ok22, sz22, ag22, e3, e1, l1, e4, hi, hg, encBd, encEv, htl]; refine k' _ _ ?_; clear k' K')
      all_goals iterate 2 (refine D.g rfl trivial rfl rfl fun K' k' => ?_; simp only [zz, reduceIte, Nat.reduceEqDiff, Nat.reduceLT, Nat.reduceLeDiff, Nat.reduceAdd, reduceCtorEq, Nat.reduceMul, sl22, el22, ok42, sz42, ag42, of42_0, e3, e1, l1, e4, hi, hg, encBd, encEv, htl]; refine k' _ _ ?_; clear k' K')
      all_goals iterate 2 (refine D.g rfl (by first | rfl | (simp only [stC, ze, reduceIte, Nat.reduceEqDiff, e3, e1, l1, e4, hi, hg, encBd, encEv, htl]; done) | (simp only [stC, ze, reduceIte, Nat.reduceEqDiff, e3, e1, l1, e4, hi, hg, encBd, encEv, htl]; rfl)) rfl rfl fun K' k' => ?_; simp only [zz, reduceIte, Nat.reduceEqDiff, Nat.reduceLT, Nat.reduceLeDiff, Nat.reduceAdd, reduceCtorEq, Nat.reduceMul, ok9, sz9, ag9, ok22, sz22, ag22, e3, e1, l1, e4, hi, hg, encBd, encEv, htl]; refine k' _ _ ?_; clear k' K')
      all_goals iterate 2 (refine D.g rfl trivial rfl rfl fun K' k' => ?_; simp only [zz, reduceIte, Nat.reduceEqDiff, Nat.reduceLT, Nat.reduceLeDiff, Nat.reduceAdd, reduceCtorEq, Nat.reduceMul, sl22, el22, ok42, sz42, ag42, of42_1, e3, e1, l1, e4, hi, hg, encBd, encEv, htl]; refine k' _ _ ?_; clear k' K')
      all_goals (refine D.g rfl (by first | rfl | (simp only [stC, ze, reduceIte, Nat.reduceEqDiff, e3, e1, l1, e4, hi, hg, encBd, encEv, htl]; done) | (simp only [stC, ze, reduceIte, Nat.reduceEqDiff, e3, e1, l1, e4, hi, hg, encBd, encEv, htl]; rfl)) rfl rfl fun K' k' => ?_; simp only [zz, reduceIte, Nat.reduceEqDiff, Nat.reduceLT, Nat.reduceLeDiff, Nat.reduceAdd, reduceCtorEq, Nat.reduceMul, ok36, sz36, ag36, e3, e1, l1, e4, hi, hg, encBd, encEv, htl]; refine k' _ _ ?_; clear k' K')
      all_goals (refine D.g rfl trivial rfl rfl fun K' k' => ?_; simp only [zz, reduceIte, Nat.reduceEqDiff, Nat.reduceLT, Nat.reduceLeDiff, Nat.reduceAdd, reduceCtorEq, Nat.reduceMul, e3, e1, l1, e4, hi, hg, encBd, encEv, htl]; refine PCalls.eqto (rclone_ev _ (by assumption)) ?_ <;> (refine k' _ _ ?_; clear k' K'))
      all_goals (refine D.g rfl trivial rfl rfl fun K' k' => ?_; simp only [zz, reduceIte, Nat.reduceEqDiff, Nat.reduceLT, Nat.reduceLeDiff, Nat.reduceAdd, reduceCtorEq, Nat.reduceMul, zt42, pl42, e3, e1, l1, e4, hi, hg, encBd, encEv, htl]; refine k' _ _ ?_; clear k' K')
      all_goals (refine D.g rfl trivial rfl rfl fun K' k' => ?_; simp only [zb, reduceIte, Nat.reduceEqDiff, Nat.reduceLT, Nat.reduceLeDiff, Nat.reduceAdd, reduceCtorEq, Nat.reduceMul, sl22, el22, ok42, sz42, ag42, zt42, by42, e3, e1, l1, e4, hi, hg, encBd, encEv, htl]; refine k' _ _ ?_; clear k' K')
      all_goals (refine D.g rfl trivial rfl rfl fun K' k' => ?_; simp only [zz, reduceIte, Nat.reduceEqDiff, Nat.reduceLT, Nat.reduceLeDiff, Nat.reduceAdd, reduceCtorEq, Nat.reduceMul, sl22, el22, ok42, sz42, ag42, zt42, by42, e3, e1, l1, e4, hi, hg, encBd, encEv, htl]; refine ⟨len_bd [a], by unfold maxLen; omega, by unfold reach; omega, fun k2 hk2 => ?_⟩ <;> (refine k' _ _ ?_; clear k' K'))
      all_goals (refine D.g rfl trivial rfl rfl fun K' k' => ?_; simp only [zz, reduceIte, Nat.reduceEqDiff, Nat.reduceAdd, e3, e1, l1, e4, hi, hg, encBd, encEv, htl]; refine k' _ _ ?_; clear k' K')
      all_goals refine D.nil ?_
      all_goals simp only [ze, reduceIte, Nat.reduceEqDiff, Nat.reduceLT, Nat.reduceLeDiff, Nat.reduceAdd, reduceCtorEq, Nat.reduceMul, e3, e1, l1, e4, hi, hg, encBd, encEv, htl]
      all_goals apply_assumption
      all_goals refine AW.reg0 ?_
      all_goals iterate 3 (refine S.g rfl rfl fun K' k' => ?_; simp only [zz, reduceIte, Nat.reduceEqDiff, Nat.reduceAdd, e4, hw, e1, e2, l1, l2]; refine k' _ _ ?_; clear k' K')
      all_goals refine S.nil ?_
      all_goals simp only [ze, reduceIte, Nat.reduceEqDiff, Nat.reduceLT, Nat.reduceLeDiff, Nat.reduceAdd, reduceCtorEq, Nat.reduceMul, e4, hw, e1, e2, l1, l2]
      refine ⟨m - 1, by omega, i + 1, by omega, rfl, .inr ⟨k2, rfl, ?_⟩⟩
      rw [htk, List.map_append]
      simp [encBd]
  · refine AW.exit ?_
    all_goals simp only [zs, reduceIte, Nat.reduceEqDiff, Nat.reduceLT, Nat.reduceLeDiff, Nat.reduceAdd, reduceCtorEq, Nat.reduceMul]
    -- EXIT 0
    -- BEHIND THE LOOP
    all_goals apply_assumption
    have hi : l.length ≤ i := by simpa using hc
    rcases hk with ⟨rfl, e3, rfl⟩ | ⟨k, e3, rfl⟩
    · have h0 : l = [] := List.eq_nil_of_length_eq_zero (by omega)
      refine AW.seq_k fun K8 h8 => ?_
      all_goals refine AW.reg0 ?_
      all_goals (refine S.g rfl rfl fun K' k' => ?_; simp only [zz, reduceIte, Nat.reduceEqDiff, Nat.reduceAdd, e3, e2, l2]; refine k' _ _ ?_; clear k' K')
      all_goals (refine S.g rfl rfl fun K' k' => ?_; simp only [zz, reduceIte, Nat.reduceEqDiff, Nat.reduceLT, Nat.reduceLeDiff, Nat.reduceAdd, reduceCtorEq, Nat.reduceMul, zt24, pl24, e3, e2, l2]; refine k' _ _ ?_; clear k' K')
      all_goals (refine S.g rfl rfl fun K' k' => ?_; simp only [zz, reduceIte, Nat.reduceEqDiff, Nat.reduceLT, Nat.reduceLeDiff, Nat.reduceAdd, reduceCtorEq, Nat.reduceMul, ok24, sz24, ag24, e3, e2, l2]; refine k' _ _ ?_; clear k' K')
      all_goals refine S.nil ?_
      all_goals simp only [ze, reduceIte, Nat.reduceEqDiff, Nat.reduceLT, Nat.reduceLeDiff, Nat.reduceAdd, reduceCtorEq, Nat.reduceMul, e3, e2, l2]
      all_goals apply_assumption
      refine AW.ret ?_
      all_goals simp only [zs, reduceIte, Nat.reduceEqDiff, Nat.reduceLT, Nat.reduceLeDiff, Nat.reduceAdd, reduceCtorEq, Nat.reduceMul, qLoad, ok24, sz24, ag24, cut, List.drop_zero, List.take_succ_cons, List.take_zero, e2, List.map, h0]
    · rw [List.take_of_length_le hi]
      refine AW.seq_k fun K9 h9 => ?_
      all_goals refine AW.reg0 ?_
      all_goals (refine S.g rfl rfl fun K' k' => ?_; simp only [zz, reduceIte, Nat.reduceEqDiff, Nat.reduceAdd, e3, e2, l2]; refine k' _ _ ?_; clear k' K')
      all_goals (refine S.g rfl rfl fun K' k' => ?_; simp only [zz, reduceIte, Nat.reduceEqDiff, Nat.reduceLT, Nat.reduceLeDiff, Nat.reduceAdd, reduceCtorEq, Nat.reduceMul, zt24, pl24, e3, e2, l2]; refine k' _ _ ?_; clear k' K')
      all_goals (refine S.g rfl rfl fun K' k' => ?_; simp only [zz, reduceIte, Nat.reduceEqDiff, Nat.reduceLT, Nat.reduceLeDiff, Nat.reduceAdd, reduceCtorEq, Nat.reduceMul, ok24, sz24, ag24, e3, e2, l2]; refine k' _ _ ?_; clear k' K')
      all_goals refine S.nil ?_
      all_goals simp only [ze, reduceIte, Nat.reduceEqDiff, Nat.reduceLT, Nat.reduceLeDiff, Nat.reduceAdd, reduceCtorEq, Nat.reduceMul, e3, e2, l2]
      all_goals apply_assumption
      refine AW.freeze (k := k) (T := (42, 6)) (es := l.map encBd) (by simp only [Hp.setGr_gr, if_true]) (AW.bare (AW.ret ?_))
      all_goals simp only [zs, reduceIte, Nat.reduceEqDiff, Nat.reduceLT, Nat.reduceLeDiff, Nat.reduceAdd, reduceCtorEq, Nat.reduceMul, qLoad, ok24, sz24, ag24, cut, List.drop_zero, List.take_succ_cons, List.take_zero, e2, fzV, fz1, St.fz_t, St.fz_l, Option.map_some, List.map]
def allEq {α : Type} (f : α → α → Bool) : List α → List α → Bool
  | [], [] => true
  | a :: l, b :: m => f a b && allEq f l m
  | _, _ => false
theorem allEq_len {α : Type} {f : α → α → Bool} : ∀ {l m : List α}, l.length ≠ m.length → allEq f l m = false
  | [], [], h => absurd rfl h
  | a :: l, b :: m, h => by simp [allEq, allEq_len (f := f) (l := l) (m := m) (by simpa using h)]
  | [], _ :: _, _ => rfl
  | _ :: _, [], _ => rfl
def eqAttr (a b : Attr) : Bool := a.name.toList == b.name.toList && (a.v.kind == b.v.kind && (a.v.n == b.v.n && a.v.s.toList == b.v.s.toList))
theorem rsame_attrs (l r : List Attr) (hl : l.length < 4611686018427387904) : PCalls Try.prog 106 [.sl (l.map encAttr), .sl (r.map encAttr)] (fun v => v = .c (.bool (allEq eqAttr l r))) := by
  refine PCalls.intro Try.call106 Try.func106 rfl Try.ntmps106 Try.results106 (by simp) ?_
  refine AW.seq_k fun K1 h1 => ?_
  all_goals refine AW.reg0 ?_
  all_goals (refine S.g rfl rfl fun K' k' => ?_; simp only [zz, reduceIte, Nat.reduceEqDiff, Nat.reduceAdd]; refine k' _ _ ?_; clear k' K')
  all_goals refine S.nil ?_
  all_goals simp only [ze, reduceIte, Nat.reduceEqDiff, Nat.reduceLT, Nat.reduceLeDiff, Nat.reduceAdd, reduceCtorEq, Nat.reduceMul]
  all_goals apply_assumption
  refine AW.seq_k fun K2 h2 => ?_
  refine AW.seq_k fun K3 h3 => ?_
  all_goals refine AW.reg0 ?_
  all_goals iterate 5 (refine S.g rfl rfl fun K' k' => ?_; simp only [zz, reduceIte, Nat.reduceEqDiff, Nat.reduceLT, Nat.reduceLeDiff, Nat.reduceAdd, reduceCtorEq, Nat.reduceMul, sl34, el34, ok143, sz143, ag143]; refine k' _ _ ?_; clear k' K')
  all_goals refine S.nil ?_
  all_goals simp only [ze, reduceIte, Nat.reduceEqDiff, Nat.reduceLT, Nat.reduceLeDiff, Nat.reduceAdd, reduceCtorEq, Nat.reduceMul]
  all_goals apply_assumption
  refine AW.cond (b := ((l.length : Int) != r.length)) (by simp [ev]) (fun hc => ?_) (fun hc => ?_)
  · refine AW.seq_k fun K4 h4 => ?_
    all_goals refine AW.reg0 ?_
    all_goals (refine S.g rfl rfl fun K' k' => ?_; simp only [zz, reduceIte, Nat.reduceEqDiff, Nat.reduceAdd]; refine k' _ _ ?_; clear k' K')
    all_goals refine S.nil ?_
    all_goals simp only [ze, reduceIte, Nat.reduceEqDiff, Nat.reduceLT, Nat.reduceLeDiff, Nat.reduceAdd, reduceCtorEq, Nat.reduceMul]
    all_goals apply_assumption
    refine AW.ret ?_
    all_goals simp only [zs, reduceIte, Nat.reduceEqDiff, Nat.reduceLT, Nat.reduceLeDiff, Nat.reduceAdd, reduceCtorEq, Nat.reduceMul]
    rw [allEq_len (by simp at hc; omega)]
  · refine AW.skip ?_
    all_goals simp only [zs, reduceIte, Nat.reduceEqDiff, Nat.reduceLT, Nat.reduceLeDiff, Nat.reduceAdd, reduceCtorEq, Nat.reduceMul]
    all_goals apply_assumption
    have hlr : l.length = r.length := by simp at hc; omega
    refine AW.seq_k fun K5 h5 => ?_
    refine AW.seq_k fun K6 h6 => ?_
    all_goals refine AW.reg0 ?_
    all_goals (refine S.g rfl rfl fun K' k' => ?_; simp only [zz, reduceIte, Nat.reduceEqDiff, Nat.reduceAdd]; refine k' _ _ ?_; clear k' K')
    all_goals refine S.nil ?_
    all_goals simp only [ze, reduceIte, Nat.reduceEqDiff, Nat.reduceLT, Nat.reduceLeDiff, Nat.reduceAdd, reduceCtorEq, Nat.reduceMul]
    all_goals apply_assumption
    refine AW.block ?_   -- 0
    refine AW.loop (fun m s σ => σ = Hp.empty ∧ ∃ i : Nat, m + i = l.length ∧ s.t 0 = .sl (l.map encAttr) ∧ s.t 1 = .sl (r.map encAttr) ∧ s.t 5 = .c (.int .i64 i) ∧ allEq eqAttr l r = allEq eqAttr (l.drop i) (r.drop i)) l.length ?_ ?_
    · refine ⟨rfl, 0, by simp, ?_⟩
      all_goals simp only [zs, reduceIte, Nat.reduceEqDiff, Nat.reduceLT, Nat.reduceLeDiff, Nat.reduceAdd, reduceCtorEq, Nat.reduceMul]
      simp
    rintro m s σ ⟨rfl, i, hm, e0, e1, e5, hp⟩
    refine AW.seq_k fun K7 h7 => ?_
    refine AW.seq_k fun K8 h8 => ?_
    all_goals refine AW.reg0 ?_
    all_goals iterate 4 (refine S.g rfl rfl fun K' k' => ?_; simp only [zz, reduceIte, Nat.reduceEqDiff, Nat.reduceLT, Nat.reduceLeDiff, Nat.reduceAdd, reduceCtorEq, Nat.reduceMul, sl34, el34, ok143, sz143, ag143, e5, e0]; refine k' _ _ ?_; clear k' K')
    all_goals refine S.nil ?_
    all_goals simp only [ze, reduceIte, Nat.reduceEqDiff, Nat.reduceLT, Nat.reduceLeDiff, Nat.reduceAdd, reduceCtorEq, Nat.reduceMul, e5, e0]
    all_goals apply_assumption
    refine AW.cond (b := decide (i < l.length)) (by simp [ev]) (fun hc => ?_) (fun hc => ?_)
    · refine AW.skip ?_
      all_goals simp only [zs, reduceIte, Nat.reduceEqDiff, Nat.reduceLT, Nat.reduceLeDiff, Nat.reduceAdd, reduceCtorEq, Nat.reduceMul]
      all_goals apply_assumption
      have hi : i < l.length := by simpa using hc
      have hj : i < r.length := by omega
      have hg := getD_map (f := encAttr) hi
      have hg2 := getD_map (f := encAttr) hj
      have hd : l.drop i = l[i] :: l.drop (i + 1) := List.drop_eq_getElem_cons hi
      have hd2 : r.drop i = r[i] :: r.drop (i + 1) := List.drop_eq_getElem_cons hj
      generalize ha : l[i] = a at hg hd
      generalize hb : r[i] = b at hg2 hd2
      rw [hd, hd2, allEq] at hp
      have hw : IntKind.i64.wrap ((i : Int) + 1) = ((i + 1 : Nat) : Int) := by rw [wrap_small _ (by omega) (by omega)]; rfl
      refine AW.seq_k fun K9 h9 => ?_
      refine AW.block ?_   -- 1
      refine AW.seq_k fun K10 h10 => ?_
      all_goals refine AW.draw (T := { sd := fun _ => false, eqk := eqTab }) (eqTab_ok) mixedO [(0, 0), (1, 0), (2, 0), (4, 0), (5, 0), (6, 0), (3, 1), (7, 1), (8, 0)] rfl (by kernel_rfl) (by kernel_rfl) ?_
      all_goals iterate 6 (refine D.g rfl trivial rfl rfl fun K' k' => ?_; simp only [zz, reduceIte, Nat.reduceEqDiff, Nat.reduceLT, Nat.reduceLeDiff, Nat.reduceAdd, reduceCtorEq, Nat.reduceMul, sl34, el34, ok143, sz143, ag143, e0, e1, e5, hi, hj, hg, hg2, encAttr]; refine k' _ _ ?_; clear k' K')
      all_goals iterate 2 (refine D.g rfl (by first | rfl | (simp only [stC, ze, reduceIte, Nat.reduceEqDiff, e0, e1, e5, hi, hj, hg, hg2, encAttr]; done) | (simp only [stC, ze, reduceIte, Nat.reduceEqDiff, e0, e1, e5, hi, hj, hg, hg2, encAttr]; rfl)) rfl rfl fun K' k' => ?_; simp only [zz, reduceIte, Nat.reduceEqDiff, Nat.reduceLT, Nat.reduceLeDiff, Nat.reduceAdd, reduceCtorEq, Nat.reduceMul, ok143, sz143, ag143, e0, e1, e5, hi, hj, hg, hg2, encAttr]; refine k' _ _ ?_; clear k' K')
      all_goals (refine D.g rfl trivial rfl rfl fun K' k' => ?_; simp only [zz, reduceIte, Nat.reduceEqDiff, Nat.reduceAdd, eqk143, fitsAll, SK.fits, cellsEq, cellEq, e0, e1, e5, hi, hj, hg, hg2, encAttr]; refine k' _ _ ?_; clear k' K')
      all_goals refine D.nil ?_
      all_goals simp only [ze, reduceIte, Nat.reduceEqDiff, Nat.reduceLT, Nat.reduceLeDiff, Nat.reduceAdd, reduceCtorEq, Nat.reduceMul, e0, e1, e5, hi, hj, hg, hg2, encAttr]
      all_goals apply_assumption
      refine AW.cond (b := !eqAttr a b) (by simp only [ev, St.put_t, Nat.reduceEqDiff, if_true]; rfl) (fun hc => ?_) (fun hc => ?_)
      · refine AW.seq_k fun K11 h11 => ?_
        all_goals refine AW.reg0 ?_
        all_goals (refine S.g rfl rfl fun K' k' => ?_; simp only [zz, reduceIte, Nat.reduceEqDiff, Nat.reduceAdd]; refine k' _ _ ?_; clear k' K')
        all_goals refine S.nil ?_
        all_goals simp only [ze, reduceIte, Nat.reduceEqDiff, Nat.reduceLT, Nat.reduceLeDiff, Nat.reduceAdd, reduceCtorEq, Nat.reduceMul]
        all_goals apply_assumption
        refine AW.ret ?_
        all_goals simp only [zs, reduceIte, Nat.reduceEqDiff, Nat.reduceLT, Nat.reduceLeDiff, Nat.reduceAdd, reduceCtorEq, Nat.reduceMul]
        have hx : eqAttr a b = false := by simpa using hc
        simp [hp, hx]
      · refine AW.skip ?_
        all_goals simp only [zs, reduceIte, Nat.reduceEqDiff, Nat.reduceLT, Nat.reduceLeDiff, Nat.reduceAdd, reduceCtorEq, Nat.reduceMul]
        all_goals apply_assumption
        have hx : eqAttr a b = true := by simpa using hc
        all_goals refine AW.reg0 ?_
        all_goals iterate 3 (refine S.g rfl rfl fun K' k' => ?_; simp only [zz, reduceIte, Nat.reduceEqDiff, Nat.reduceAdd, e5, hw]; refine k' _ _ ?_; clear k' K')
        all_goals refine S.nil ?_
        all_goals simp only [ze, reduceIte, Nat.reduceEqDiff, Nat.reduceLT, Nat.reduceLeDiff, Nat.reduceAdd, reduceCtorEq, Nat.reduceMul, e5, hw]
        refine ⟨m - 1, by omega, i + 1, by omega, e0, e1, rfl, ?_⟩
        rw [hp, hx, Bool.true_and]
    · refine AW.exit ?_
      all_goals simp only [zs, reduceIte, Nat.reduceEqDiff, Nat.reduceLT, Nat.reduceLeDiff, Nat.reduceAdd, reduceCtorEq, Nat.reduceMul]
      -- EXIT 0
      all_goals apply_assumption
      refine AW.seq_k fun K12 h12 => ?_
      all_goals refine AW.reg0 ?_
      all_goals (refine S.g rfl rfl fun K' k' => ?_; simp only [zz, reduceIte, Nat.reduceEqDiff, Nat.reduceAdd]; refine k' _ _ ?_; clear k' K')
      all_goals refine S.nil ?_
      all_goals simp only [ze, reduceIte, Nat.reduceEqDiff, Nat.reduceLT, Nat.reduceLeDiff, Nat.reduceAdd, reduceCtorEq, Nat.reduceMul]
      all_goals apply_assumption
      refine AW.ret ?_
      all_goals simp only [zs, reduceIte, Nat.reduceEqDiff, Nat.reduceLT, Nat.reduceLeDiff, Nat.reduceAdd, reduceCtorEq, Nat.reduceMul]
      have hi : l.length ≤ i := by simpa using hc
      simp [hp, List.drop_of_length_le hi, List.drop_of_length_le (hlr ▸ hi), allEq]
end Go.Abs.M
namespace Go.Abs.M
open Go Go.Abs Go.Proofs
set_option maxRecDepth 20000
set_option linter.unusedSimpArgs false
set_option linter.unusedVariables false
def eqEv (a b : Ev) : Bool := (a.src == b.src && a.seq == b.seq) && (a.time == b.time) && (a.type.toList == b.type.toList) && allEq eqAttr a.attrs b.attrs
def eqBd (a b : Bd) : Bool := (a.var.toList == b.var.toList) && eqEv a.ev b.ev
theorem rsame_ev (a b : Ev) (ha : a.attrs.length < 4611686018427387904) : PCalls Try.prog 67 [.agg (encEv a), .agg (encEv b)] (fun v => v = .c (.bool (eqEv a b))) := by
  refine PCalls.intro Try.call67 Try.func67 rfl Try.ntmps67 Try.results67 (by simp) ?_
  refine AW.seq_k fun K1 h1 => ?_
  all_goals refine AW.reg0 ?_
  all_goals iterate 3 (refine S.g rfl rfl fun K' k' => ?_; simp only [zz, reduceIte, Nat.reduceEqDiff, Nat.reduceLT, Nat.reduceLeDiff, Nat.reduceAdd, reduceCtorEq, Nat.reduceMul, ok36, sz36, ag36, encEv]; refine k' _ _ ?_; clear k' K')
  all_goals refine S.nil ?_
  all_goals simp only [ze, reduceIte, Nat.reduceEqDiff, Nat.reduceLT, Nat.reduceLeDiff, Nat.reduceAdd, reduceCtorEq, Nat.reduceMul, encEv]
  all_goals apply_assumption
  refine AW.seq_j (fun s' σ' => σ' = Hp.empty ∧ s'.t 4 = .c (.bool (eqEv a b))) ?_ ?_
  · skip
    all_goals refine AW.region (T := { eqk := eqTab }) (eqTab_ok) rfl ?_
    all_goals iterate 4 (refine S.g rfl rfl fun K' k' => ?_; simp only [zz, reduceIte, Nat.reduceEqDiff, Nat.reduceLT, Nat.reduceLeDiff, Nat.reduceAdd, reduceCtorEq, Nat.reduceMul, of36_0, ok33, sz33, ag33, encEv]; refine k' _ _ ?_; clear k' K')
    all_goals (refine S.g rfl rfl fun K' k' => ?_; simp only [zz, reduceIte, Nat.reduceEqDiff, Nat.reduceLT, Nat.reduceLeDiff, Nat.reduceAdd, reduceCtorEq, Nat.reduceMul, eqk33, fitsAll, SK.fits, cellsEq, cellEq, encEv]; refine S.bool fun b a9 => ?_; cases b <;> (try (exfalso; first | exact Bool.noConfusion a9 | (have h := of_decide_eq_true a9; omega) | (have h := of_decide_eq_false a9; omega))) <;> (refine k' _ _ ?_; clear k' K'))
    all_goals (refine S.g rfl rfl fun K' k' => ?_; simp only [zz, reduceIte, Nat.reduceEqDiff, Nat.reduceAdd, encEv]; refine k' _ _ ?_; clear k' K')
    all_goals iterate 4 (first | (refine S.y rfl rfl rfl rfl fun K' k' => ?_; simp only [zz, reduceIte, Nat.reduceEqDiff, Nat.reduceLT, Nat.reduceLeDiff, Nat.reduceAdd, reduceCtorEq, Nat.reduceMul, of36_1, ok2, sz2, ag2, encEv]; refine k' _ _ ?_; clear k' K') | ((first | refine S.x rfl rfl rfl rfl fun K' k' => ?_ | refine S.u rfl rfl rfl rfl fun K' k' => ?_); simp only [ze, reduceIte, Nat.reduceEqDiff]; refine k' _ _ ?_; clear k' K'))
    all_goals (first | (refine S.y rfl rfl rfl rfl fun K' k' => ?_; simp only [zz, reduceIte, Nat.reduceEqDiff, Nat.reduceLT, Nat.reduceLeDiff, Nat.reduceAdd, reduceCtorEq, Nat.reduceMul, encEv]; refine S.bool fun b a15 => ?_; cases b <;> (try (exfalso; first | exact Bool.noConfusion a15 | (have h := of_decide_eq_true a15; omega) | (have h := of_decide_eq_false a15; omega))) <;> (refine k' _ _ ?_; clear k' K')) | ((first | refine S.x rfl rfl rfl rfl fun K' k' => ?_ | refine S.u rfl rfl rfl rfl fun K' k' => ?_); simp only [ze, reduceIte, Nat.reduceEqDiff]; refine k' _ _ ?_; clear k' K'))
    all_goals iterate 2 (refine S.g rfl rfl fun K' k' => ?_; simp only [zz, reduceIte, Nat.reduceEqDiff, Nat.reduceAdd, encEv]; refine k' _ _ ?_; clear k' K')
    all_goals iterate 4 (first | (refine S.y rfl rfl rfl rfl fun K' k' => ?_; simp only [zz, reduceIte, Nat.reduceEqDiff, Nat.reduceLT, Nat.reduceLeDiff, Nat.reduceAdd, reduceCtorEq, Nat.reduceMul, of36_2, ok9, sz9, ag9, encEv]; refine k' _ _ ?_; clear k' K') | ((first | refine S.x rfl rfl rfl rfl fun K' k' => ?_ | refine S.u rfl rfl rfl rfl fun K' k' => ?_); simp only [ze, reduceIte, Nat.reduceEqDiff]; refine k' _ _ ?_; clear k' K'))
    all_goals (first | (refine S.y rfl rfl rfl rfl fun K' k' => ?_; simp only [zz, reduceIte, Nat.reduceEqDiff, Nat.reduceLT, Nat.reduceLeDiff, Nat.reduceAdd, reduceCtorEq, Nat.reduceMul, encEv]; refine S.bool fun b a22 => ?_; cases b <;> (try (exfalso; first | exact Bool.noConfusion a22 | (have h := of_decide_eq_true a22; omega) | (have h := of_decide_eq_false a22; omega))) <;> (refine k' _ _ ?_; clear k' K')) | ((first | refine S.x rfl rfl rfl rfl fun K' k' => ?_ | refine S.u rfl rfl rfl rfl fun K' k' => ?_); simp only [ze, reduceIte, Nat.reduceEqDiff]; refine k' _ _ ?_; clear k' K'))
    all_goals iterate 2 (refine S.g rfl rfl fun K' k' => ?_; simp only [zz, reduceIte, Nat.reduceEqDiff, Nat.reduceAdd, encEv]; refine k' _ _ ?_; clear k' K')
    all_goals iterate 4 (first | (refine S.y rfl rfl rfl rfl fun K' k' => ?_; simp only [zz, reduceIte, Nat.reduceEqDiff, Nat.reduceLT, Nat.reduceLeDiff, Nat.reduceAdd, reduceCtorEq, Nat.reduceMul, of36_3, ok34, sz34, ag34, encEv]; refine k' _ _ ?_; clear k' K') | ((first | refine S.x rfl rfl rfl rfl fun K' k' => ?_ | refine S.u rfl rfl rfl rfl fun K' k' => ?_); simp only [ze, reduceIte, Nat.reduceEqDiff]; refine k' _ _ ?_; clear k' K'))
    all_goals (first | (refine S.y rfl rfl rfl rfl fun K' k' => ?_; simp only [zz, reduceIte, Nat.reduceEqDiff, Nat.reduceLT, Nat.reduceLeDiff, Nat.reduceAdd, reduceCtorEq, Nat.reduceMul, encEv]; refine PCalls.eqto (rsame_attrs _ _ (by assumption)) ?_ <;> (refine k' _ _ ?_; clear k' K')) | ((first | refine S.x rfl rfl rfl rfl fun K' k' => ?_ | refine S.u rfl rfl rfl rfl fun K' k' => ?_); simp only [ze, reduceIte, Nat.reduceEqDiff]; refine k' _ _ ?_; clear k' K'))
    all_goals iterate 2 (refine S.g rfl rfl fun K' k' => ?_; simp only [zz, reduceIte, Nat.reduceEqDiff, Nat.reduceAdd, encEv]; refine k' _ _ ?_; clear k' K')
    all_goals refine S.nil ?_
    all_goals simp only [ze, reduceIte, Nat.reduceEqDiff, Nat.reduceLT, Nat.reduceLeDiff, Nat.reduceAdd, reduceCtorEq, Nat.reduceMul, encEv]
    all_goals simp_all [eqEv]
  rintro s σ ⟨rfl, e4⟩
  refine AW.ret ?_
  all_goals simp only [zs, reduceIte, Nat.reduceEqDiff, Nat.reduceLT, Nat.reduceLeDiff, Nat.reduceAdd, reduceCtorEq, Nat.reduceMul, e4]
theorem rsame_part (l r : List Bd) (hl : l.length < 4611686018427387904) (hla : ∀ b ∈ l, b.ev.attrs.length < 4611686018427387904) : PCalls Try.prog 14 [.agg [.sl (l.map encBd)], .agg [.sl (r.map encBd)]] (fun v => v = .c (.bool (allEq eqBd l r))) := by
  refine PCalls.intro Try.call14 Try.func14 rfl Try.ntmps14 Try.results14 (by simp) ?_
  refine AW.seq_k fun K1 h1 => ?_
  all_goals refine AW.reg0 ?_
  all_goals iterate 3 (refine S.g rfl rfl fun K' k' => ?_; simp only [zz, reduceIte, Nat.reduceEqDiff, Nat.reduceLT, Nat.reduceLeDiff, Nat.reduceAdd, reduceCtorEq, Nat.reduceMul, ok24, sz24, ag24]; refine k' _ _ ?_; clear k' K')
  all_goals refine S.nil ?_
  all_goals simp only [ze, reduceIte, Nat.reduceEqDiff, Nat.reduceLT, Nat.reduceLeDiff, Nat.reduceAdd, reduceCtorEq, Nat.reduceMul]
  all_goals apply_assumption
  refine AW.seq_k fun K2 h2 => ?_
  refine AW.seq_k fun K3 h3 => ?_
  all_goals refine AW.reg0 ?_
  all_goals iterate 7 (refine S.g rfl rfl fun K' k' => ?_; simp only [zz, reduceIte, Nat.reduceEqDiff, Nat.reduceLT, Nat.reduceLeDiff, Nat.reduceAdd, reduceCtorEq, Nat.reduceMul, of24_0, ok22, sz22, ag22, sl22, el22, ok42, sz42, ag42]; refine k' _ _ ?_; clear k' K')
  all_goals refine S.nil ?_
  all_goals simp only [ze, reduceIte, Nat.reduceEqDiff, Nat.reduceLT, Nat.reduceLeDiff, Nat.reduceAdd, reduceCtorEq, Nat.reduceMul]
  all_goals apply_assumption
  refine AW.cond (b := ((l.length : Int) != r.length)) (by simp [ev]) (fun hc => ?_) (fun hc => ?_)
  · refine AW.seq_k fun K4 h4 => ?_
    all_goals refine AW.reg0 ?_
    all_goals (refine S.g rfl rfl fun K' k' => ?_; simp only [zz, reduceIte, Nat.reduceEqDiff, Nat.reduceAdd]; refine k' _ _ ?_; clear k' K')
    all_goals refine S.nil ?_
    all_goals simp only [ze, reduceIte, Nat.reduceEqDiff, Nat.reduceLT, Nat.reduceLeDiff, Nat.reduceAdd, reduceCtorEq, Nat.reduceMul]
    all_goals apply_assumption
    refine AW.ret ?_
    all_goals simp only [zs, reduceIte, Nat.reduceEqDiff, Nat.reduceLT, Nat.reduceLeDiff, Nat.reduceAdd, reduceCtorEq, Nat.reduceMul]
    rw [allEq_len (by simp at hc; omega)]
  · refine AW.skip ?_
    all_goals simp only [zs, reduceIte, Nat.reduceEqDiff, Nat.reduceLT, Nat.reduceLeDiff, Nat.reduceAdd, reduceCtorEq, Nat.reduceMul]
    all_goals apply_assumption
    have hlr : l.length = r.length := by simp at hc; omega
    refine AW.seq_k fun K5 h5 => ?_
    refine AW.seq_k fun K6 h6 => ?_
    all_goals refine AW.reg0 ?_
    all_goals (refine S.g rfl rfl fun K' k' => ?_; simp only [zz, reduceIte, Nat.reduceEqDiff, Nat.reduceAdd]; refine k' _ _ ?_; clear k' K')
    all_goals refine S.nil ?_
    all_goals simp only [ze, reduceIte, Nat.reduceEqDiff, Nat.reduceLT, Nat.reduceLeDiff, Nat.reduceAdd, reduceCtorEq, Nat.reduceMul]
    all_goals apply_assumption
    refine AW.block ?_   -- 0
    refine AW.loop (fun m s σ => σ = Hp.empty ∧ ∃ i : Nat, m + i = l.length ∧ s.t 2 = .lp 2 0 ∧ s.l 2 = some [.sl (l.map encBd)] ∧ s.t 3 = .lp 3 0 ∧ s.l 3 = some [.sl (r.map encBd)] ∧ s.t 5 = .c (.int .i64 i) ∧ allEq eqBd l r = allEq eqBd (l.drop i) (r.drop i)) l.length ?_ ?_
    · refine ⟨rfl, 0, by simp, ?_⟩
      all_goals simp only [zs, reduceIte, Nat.reduceEqDiff, Nat.reduceLT, Nat.reduceLeDiff, Nat.reduceAdd, reduceCtorEq, Nat.reduceMul]
      simp
    rintro m s σ ⟨rfl, i, hm, e2, l2, e3, l3, e5, hp⟩
    refine AW.seq_k fun K7 h7 => ?_
    refine AW.seq_k fun K8 h8 => ?_
    all_goals refine AW.reg0 ?_
    all_goals iterate 5 (refine S.g rfl rfl fun K' k' => ?_; simp only [zz, reduceIte, Nat.reduceEqDiff, Nat.reduceLT, Nat.reduceLeDiff, Nat.reduceAdd, reduceCtorEq, Nat.reduceMul, of24_0, ok22, sz22, ag22, sl22, el22, ok42, sz42, ag42, e5, e2, l2]; refine k' _ _ ?_; clear k' K')
    all_goals refine S.nil ?_
    all_goals simp only [ze, reduceIte, Nat.reduceEqDiff, Nat.reduceLT, Nat.reduceLeDiff, Nat.reduceAdd, reduceCtorEq, Nat.reduceMul, e5, e2, l2]
    all_goals apply_assumption
    refine AW.cond (b := decide (i < l.length)) (by simp [ev]) (fun hc => ?_) (fun hc => ?_)
    · refine AW.skip ?_
      all_goals simp only [zs, reduceIte, Nat.reduceEqDiff, Nat.reduceLT, Nat.reduceLeDiff, Nat.reduceAdd, reduceCtorEq, Nat.reduceMul]
      all_goals apply_assumption
      have hi : i < l.length := by simpa using hc
      have hj : i < r.length := by omega
      have hg := getD_map (f := encBd) hi
      have hg2 := getD_map (f := encBd) hj
      have hd : l.drop i = l[i] :: l.drop (i + 1) := List.drop_eq_getElem_cons hi
      have hd2 : r.drop i = r[i] :: r.drop (i + 1) := List.drop_eq_getElem_cons hj
      have hn1 := hla _ (List.getElem_mem hi)
      generalize ha : l[i] = a at hg hd hn1
      generalize hb : r[i] = b at hg2 hd2
      rw [hd, hd2, allEq] at hp
      have hw : IntKind.i64.wrap ((i : Int) + 1) = ((i + 1 : Nat) : Int) := by rw [wrap_small _ (by omega) (by omega)]; rfl
      refine AW.seq_k fun K9 h9 => ?_
      refine AW.block ?_   -- 1
      refine AW.seq_j (fun s' σ' => σ' = Hp.empty ∧ s'.t 2 = .lp 2 0 ∧ s'.l 2 = some [.sl (l.map encBd)] ∧ s'.t 3 = .lp 3 0 ∧ s'.l 3 = some [.sl (r.map encBd)] ∧ s'.t 5 = .c (.int .i64 i) ∧ s'.t 48 = .c (.bool (!eqBd a b))) ?_ ?_
      · clear hp hd hd2
        all_goals refine AW.draw (T := { sd := fun d => d == 2 || d == 3 }) (fun _ _ h => by cases h) mixedO [(0, 0), (2, 0), (6, 0), (8, 0), (1, 1), (3, 0), (4, 0), (5, 1), (7, 1), (9, 0), (10, 0), (11, 1), (12, 0), (13, 0), (14, 0), (16, 0), (20, 0), (22, 0), (15, 1), (17, 0), (18, 0), (19, 1), (21, 1), (23, 0), (24, 0), (25, 1), (26, 2), (27, 0), (28, 0)] rfl (by kernel_rfl) (by kernel_rfl) ?_
        all_goals iterate 4 (refine D.g rfl trivial rfl rfl fun K' k' => ?_; simp only [zz, reduceIte, Nat.reduceEqDiff, Nat.reduceLT, Nat.reduceLeDiff, Nat.reduceAdd, reduceCtorEq, Nat.reduceMul, of24_0, e2, l2, e3, l3, e5, hi, hj, hg, hg2, encBd]; refine k' _ _ ?_; clear k' K')
        all_goals (refine D.g rfl (by first | rfl | (simp only [stC, ze, reduceIte, Nat.reduceEqDiff, e2, l2, e3, l3, e5, hi, hj, hg, hg2, encBd]; done) | (simp only [stC, ze, reduceIte, Nat.reduceEqDiff, e2, l2, e3, l3, e5, hi, hj, hg, hg2, encBd]; rfl)) rfl rfl fun K' k' => ?_; simp only [zz, reduceIte, Nat.reduceEqDiff, Nat.reduceLT, Nat.reduceLeDiff, Nat.reduceAdd, reduceCtorEq, Nat.reduceMul, ok22, sz22, ag22, e2, l2, e3, l3, e5, hi, hj, hg, hg2, encBd]; refine k' _ _ ?_; clear k' K')
        all_goals iterate 2 (refine D.g rfl trivial rfl rfl fun K' k' => ?_; simp only [zz, reduceIte, Nat.reduceEqDiff, Nat.reduceLT, Nat.reduceLeDiff, Nat.reduceAdd, reduceCtorEq, Nat.reduceMul, sl22, el22, ok42, sz42, ag42, of42_0, e2, l2, e3, l3, e5, hi, hj, hg, hg2, encBd]; refine k' _ _ ?_; clear k' K')
        all_goals iterate 2 (refine D.g rfl (by first | rfl | (simp only [stC, ze, reduceIte, Nat.reduceEqDiff, e2, l2, e3, l3, e5, hi, hj, hg, hg2, encBd]; done) | (simp only [stC, ze, reduceIte, Nat.reduceEqDiff, e2, l2, e3, l3, e5, hi, hj, hg, hg2, encBd]; rfl)) rfl rfl fun K' k' => ?_; simp only [zz, reduceIte, Nat.reduceEqDiff, Nat.reduceLT, Nat.reduceLeDiff, Nat.reduceAdd, reduceCtorEq, Nat.reduceMul, ok9, sz9, ag9, ok22, sz22, ag22, e2, l2, e3, l3, e5, hi, hj, hg, hg2, encBd]; refine k' _ _ ?_; clear k' K')
        all_goals iterate 2 (refine D.g rfl trivial rfl rfl fun K' k' => ?_; simp only [zz, reduceIte, Nat.reduceEqDiff, Nat.reduceLT, Nat.reduceLeDiff, Nat.reduceAdd, reduceCtorEq, Nat.reduceMul, sl22, el22, ok42, sz42, ag42, of42_0, e2, l2, e3, l3, e5, hi, hj, hg, hg2, encBd]; refine k' _ _ ?_; clear k' K')
        all_goals (refine D.g rfl (by first | rfl | (simp only [stC, ze, reduceIte, Nat.reduceEqDiff, e2, l2, e3, l3, e5, hi, hj, hg, hg2, encBd]; done) | (simp only [stC, ze, reduceIte, Nat.reduceEqDiff, e2, l2, e3, l3, e5, hi, hj, hg, hg2, encBd]; rfl)) rfl rfl fun K' k' => ?_; simp only [zz, reduceIte, Nat.reduceEqDiff, Nat.reduceLT, Nat.reduceLeDiff, Nat.reduceAdd, reduceCtorEq, Nat.reduceMul, ok9, sz9, ag9, e2, l2, e3, l3, e5, hi, hj, hg, hg2, encBd]; refine k' _ _ ?_; clear k' K')
        all_goals (refine D.g rfl trivial rfl rfl fun K' k' => ?_; simp only [zz, reduceIte, Nat.reduceEqDiff, Nat.reduceLT, Nat.reduceLeDiff, Nat.reduceAdd, reduceCtorEq, Nat.reduceMul, e2, l2, e3, l3, e5, hi, hj, hg, hg2, encBd]; refine S.bool fun b a32 => ?_; cases b <;> (try (exfalso; first | exact Bool.noConfusion a32 | (have h := of_decide_eq_true a32; omega) | (have h := of_decide_eq_false a32; omega))) <;> (refine k' _ _ ?_; clear k' K'))
        all_goals (refine D.g rfl trivial rfl rfl fun K' k' => ?_; simp only [zz, reduceIte, Nat.reduceEqDiff, Nat.reduceAdd, e2, l2, e3, l3, e5, hi, hj, hg, hg2, encBd]; refine k' _ _ ?_; clear k' K')
        all_goals iterate 4 (first | (refine D.y rfl trivial rfl rfl rfl rfl fun K' k' => ?_; simp only [zz, reduceIte, Nat.reduceEqDiff, Nat.reduceLT, Nat.reduceLeDiff, Nat.reduceAdd, reduceCtorEq, Nat.reduceMul, of24_0, e2, l2, e3, l3, e5, hi, hj, hg, hg2, encBd]; refine k' _ _ ?_; clear k' K') | ((first | refine D.x rfl (fun h => by cases h) rfl rfl rfl rfl fun K' k' => ?_ | refine D.u rfl (fun h => by cases h) rfl rfl rfl rfl fun K' k' => ?_); simp only [ze, reduceIte, Nat.reduceEqDiff]; refine k' _ _ ?_; clear k' K'))
        all_goals (first | (refine D.y rfl (by first | rfl | (simp only [stC, ze, reduceIte, Nat.reduceEqDiff, e2, l2, e3, l3, e5, hi, hj, hg, hg2, encBd]; done) | (simp only [stC, ze, reduceIte, Nat.reduceEqDiff, e2, l2, e3, l3, e5, hi, hj, hg, hg2, encBd]; rfl)) rfl rfl rfl rfl fun K' k' => ?_; simp only [zz, reduceIte, Nat.reduceEqDiff, Nat.reduceLT, Nat.reduceLeDiff, Nat.reduceAdd, reduceCtorEq, Nat.reduceMul, ok22, sz22, ag22, e2, l2, e3, l3, e5, hi, hj, hg, hg2, encBd]; refine k' _ _ ?_; clear k' K') | ((first | refine D.x rfl (fun _ => rfl) rfl rfl rfl rfl fun K' k' => ?_ | refine D.u rfl (fun _ => rfl) rfl rfl rfl rfl fun K' k' => ?_); simp only [ze, reduceIte, Nat.reduceEqDiff]; refine k' _ _ ?_; clear k' K'))
        all_goals iterate 2 (first | (refine D.y rfl trivial rfl rfl rfl rfl fun K' k' => ?_; simp only [zz, reduceIte, Nat.reduceEqDiff, Nat.reduceLT, Nat.reduceLeDiff, Nat.reduceAdd, reduceCtorEq, Nat.reduceMul, sl22, el22, ok42, sz42, ag42, of42_1, e2, l2, e3, l3, e5, hi, hj, hg, hg2, encBd]; refine k' _ _ ?_; clear k' K') | ((first | refine D.x rfl (fun h => by cases h) rfl rfl rfl rfl fun K' k' => ?_ | refine D.u rfl (fun h => by cases h) rfl rfl rfl rfl fun K' k' => ?_); simp only [ze, reduceIte, Nat.reduceEqDiff]; refine k' _ _ ?_; clear k' K'))
        all_goals iterate 2 (first | (refine D.y rfl (by first | rfl | (simp only [stC, ze, reduceIte, Nat.reduceEqDiff, e2, l2, e3, l3, e5, hi, hj, hg, hg2, encBd]; done) | (simp only [stC, ze, reduceIte, Nat.reduceEqDiff, e2, l2, e3, l3, e5, hi, hj, hg, hg2, encBd]; rfl)) rfl rfl rfl rfl fun K' k' => ?_; simp only [zz, reduceIte, Nat.reduceEqDiff, Nat.reduceLT, Nat.reduceLeDiff, Nat.reduceAdd, reduceCtorEq, Nat.reduceMul, ok36, sz36, ag36, ok22, sz22, ag22, e2, l2, e3, l3, e5, hi, hj, hg, hg2, encBd]; refine k' _ _ ?_; clear k' K') | ((first | refine D.x rfl (fun _ => rfl) rfl rfl rfl rfl fun K' k' => ?_ | refine D.u rfl (fun _ => rfl) rfl rfl rfl rfl fun K' k' => ?_); simp only [ze, reduceIte, Nat.reduceEqDiff]; refine k' _ _ ?_; clear k' K'))
        all_goals iterate 2 (first | (refine D.y rfl trivial rfl rfl rfl rfl fun K' k' => ?_; simp only [zz, reduceIte, Nat.reduceEqDiff, Nat.reduceLT, Nat.reduceLeDiff, Nat.reduceAdd, reduceCtorEq, Nat.reduceMul, sl22, el22, ok42, sz42, ag42, of42_1, e2, l2, e3, l3, e5, hi, hj, hg, hg2, encBd]; refine k' _ _ ?_; clear k' K') | ((first | refine D.x rfl (fun h => by cases h) rfl rfl rfl rfl fun K' k' => ?_ | refine D.u rfl (fun h => by cases h) rfl rfl rfl rfl fun K' k' => ?_); simp only [ze, reduceIte, Nat.reduceEqDiff]; refine k' _ _ ?_; clear k' K'))
        all_goals (first | (refine D.y rfl (by first | rfl | (simp only [stC, ze, reduceIte, Nat.reduceEqDiff, e2, l2, e3, l3, e5, hi, hj, hg, hg2, encBd]; done) | (simp only [stC, ze, reduceIte, Nat.reduceEqDiff, e2, l2, e3, l3, e5, hi, hj, hg, hg2, encBd]; rfl)) rfl rfl rfl rfl fun K' k' => ?_; simp only [zz, reduceIte, Nat.reduceEqDiff, Nat.reduceLT, Nat.reduceLeDiff, Nat.reduceAdd, reduceCtorEq, Nat.reduceMul, ok36, sz36, ag36, e2, l2, e3, l3, e5, hi, hj, hg, hg2, encBd]; refine k' _ _ ?_; clear k' K') | ((first | refine D.x rfl (fun _ => rfl) rfl rfl rfl rfl fun K' k' => ?_ | refine D.u rfl (fun _ => rfl) rfl rfl rfl rfl fun K' k' => ?_); simp only [ze, reduceIte, Nat.reduceEqDiff]; refine k' _ _ ?_; clear k' K'))
        all_goals (first | (refine D.y rfl trivial rfl rfl rfl rfl fun K' k' => ?_; simp only [zz, reduceIte, Nat.reduceEqDiff, Nat.reduceLT, Nat.reduceLeDiff, Nat.reduceAdd, reduceCtorEq, Nat.reduceMul, e2, l2, e3, l3, e5, hi, hj, hg, hg2, encBd]; refine PCalls.eqto (rsame_ev _ _ (by assumption)) ?_ <;> (refine k' _ _ ?_; clear k' K')) | ((first | refine D.x rfl (fun h => by cases h) rfl rfl rfl rfl fun K' k' => ?_ | refine D.u rfl (fun h => by cases h) rfl rfl rfl rfl fun K' k' => ?_); simp only [ze, reduceIte, Nat.reduceEqDiff]; refine k' _ _ ?_; clear k' K'))
        all_goals (first | (refine D.y rfl trivial rfl rfl rfl rfl fun K' k' => ?_; simp only [zz, reduceIte, Nat.reduceEqDiff, Nat.reduceAdd, e2, l2, e3, l3, e5, hi, hj, hg, hg2, encBd]; refine k' _ _ ?_; clear k' K') | ((first | refine D.x rfl (fun h => by cases h) rfl rfl rfl rfl fun K' k' => ?_ | refine D.u rfl (fun h => by cases h) rfl rfl rfl rfl fun K' k' => ?_); simp only [ze, reduceIte, Nat.reduceEqDiff]; refine k' _ _ ?_; clear k' K'))
        all_goals (refine D.g rfl trivial rfl rfl fun K' k' => ?_; simp only [zz, reduceIte, Nat.reduceEqDiff, Nat.reduceAdd, e2, l2, e3, l3, e5, hi, hj, hg, hg2, encBd]; refine k' _ _ ?_; clear k' K')
        all_goals refine D.nil ?_
        all_goals simp only [ze, reduceIte, Nat.reduceEqDiff, Nat.reduceLT, Nat.reduceLeDiff, Nat.reduceAdd, reduceCtorEq, Nat.reduceMul, e2, l2, e3, l3, e5, hi, hj, hg, hg2, encBd]
        all_goals simp_all [eqBd]
      rintro s1 σ1 ⟨rfl, f2, k2, f3, k3, f5, f48⟩
      refine AW.cond (b := !eqBd a b) f48 (fun hc => ?_) (fun hc => ?_)
      · refine AW.seq_k fun K10 h10 => ?_
        all_goals refine AW.reg0 ?_
        all_goals (refine S.g rfl rfl fun K' k' => ?_; simp only [zz, reduceIte, Nat.reduceEqDiff, Nat.reduceAdd]; refine k' _ _ ?_; clear k' K')
        all_goals refine S.nil ?_
        all_goals simp only [ze, reduceIte, Nat.reduceEqDiff, Nat.reduceLT, Nat.reduceLeDiff, Nat.reduceAdd, reduceCtorEq, Nat.reduceMul]
        all_goals apply_assumption
        refine AW.ret ?_
        all_goals simp only [zs, reduceIte, Nat.reduceEqDiff, Nat.reduceLT, Nat.reduceLeDiff, Nat.reduceAdd, reduceCtorEq, Nat.reduceMul]
        have hx : eqBd a b = false := by simpa using hc
        simp [hp, hx]
      · refine AW.skip ?_
        all_goals simp only [zs, reduceIte, Nat.reduceEqDiff, Nat.reduceLT, Nat.reduceLeDiff, Nat.reduceAdd, reduceCtorEq, Nat.reduceMul]
        all_goals apply_assumption
        have hx : eqBd a b = true := by simpa using hc
        all_goals refine AW.reg0 ?_
        all_goals iterate 3 (refine S.g rfl rfl fun K' k' => ?_; simp only [zz, reduceIte, Nat.reduceEqDiff, Nat.reduceAdd, f5, hw]; refine k' _ _ ?_; clear k' K')
        all_goals refine S.nil ?_
        all_goals simp only [ze, reduceIte, Nat.reduceEqDiff, Nat.reduceLT, Nat.reduceLeDiff, Nat.reduceAdd, reduceCtorEq, Nat.reduceMul, f5, hw]
        refine ⟨m - 1, by omega, i + 1, by omega, f2, k2, f3, k3, rfl, ?_⟩
        rw [hp, hx, Bool.true_and]
    · refine AW.exit ?_
      all_goals simp only [zs, reduceIte, Nat.reduceEqDiff, Nat.reduceLT, Nat.reduceLeDiff, Nat.reduceAdd, reduceCtorEq, Nat.reduceMul]
      -- EXIT 0
      all_goals apply_assumption
      refine AW.seq_k fun K11 h11 => ?_
      all_goals refine AW.reg0 ?_
      all_goals (refine S.g rfl rfl fun K' k' => ?_; simp only [zz, reduceIte, Nat.reduceEqDiff, Nat.reduceAdd]; refine k' _ _ ?_; clear k' K')
      all_goals refine S.nil ?_
      all_goals simp only [ze, reduceIte, Nat.reduceEqDiff, Nat.reduceLT, Nat.reduceLeDiff, Nat.reduceAdd, reduceCtorEq, Nat.reduceMul]
      all_goals apply_assumption
      refine AW.ret ?_
      all_goals simp only [zs, reduceIte, Nat.reduceEqDiff, Nat.reduceLT, Nat.reduceLeDiff, Nat.reduceAdd, reduceCtorEq, Nat.reduceMul]
      have hi : l.length ≤ i := by simpa using hc
      simp [hp, List.drop_of_length_le hi, List.drop_of_length_le (hlr ▸ hi), allEq]
end Go.Abs.M
