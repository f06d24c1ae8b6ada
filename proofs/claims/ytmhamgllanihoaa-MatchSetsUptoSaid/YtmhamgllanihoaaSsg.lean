import Derived.Test.YtmhamgllanihoaaSsf
import Derived.Deep.Slices
namespace Go.Abs.M
open Go Go.Abs Go.Proofs
set_option maxRecDepth 20000
set_option linter.unusedSimpArgs false
set_option linter.unusedVariables false
set_option maxHeartbeats 2000000 in
theorem same_spec (g g2 : Nat) (a b : List (List Bd)) (σ : Hp) (hsa : PSet g a σ) (hsb : PSet g2 b σ) (ht : SrtL b) (hr : a.length * 24 ≤ 140737488355328) (hrb : b.length * 24 ≤ 140737488355328) (hok : ∀ x ∈ a, okI x) (hokb : ∀ x ∈ b, okI x) :
    ACalls Try.prog 49 [ptrV g, ptrV g2] σ (fun v σ' => v = .c (.bool (sameS a b)) ∧ σ' = σ) := by
  refine ACalls.keepH (R := fun v σ' => v = .c (.bool (sameS a b)) ∧ (∀ x c, σ.obj x = some c → σ'.obj x = some c) ∧ ∀ k x, σ.gr k = some x → σ'.gr k = some x) ?_ (fun v σ' h => ⟨h.2.1, h.2.2, h.1, rfl⟩)
  refine ACalls.intro Try.call49 Try.func49 rfl Try.ntmps49 Try.results49 (by simp) ?_
  have hbe : ((a.length : Int) != (b.length : Int)) = !decide (a.length = b.length) := by
    by_cases h : a.length = b.length
    · simp [h]
    · simp [h]; omega
  refine AW.seq_k fun K1 h1 => ?_
  all_goals refine AW.region (T := { hp := fun d => d == 3 || d == 4 }) (fun _ _ h => by cases h) rfl ?_
  all_goals (refine S.g rfl rfl fun K' k' => ?_; simp only [zz, reduceIte, Nat.reduceEqDiff, Nat.reduceLT, Nat.reduceLeDiff, Nat.reduceAdd, reduceCtorEq, Nat.reduceMul, ok65, sz65, ag65, ptrV]; intro r3 hr3 <;> (refine k' _ _ ?_; clear k' K'))
  all_goals (refine S.g rfl rfl fun K' k' => ?_; simp only [zz, reduceIte, Nat.reduceEqDiff, Nat.reduceLT, Nat.reduceLeDiff, Nat.reduceAdd, reduceCtorEq, Nat.reduceMul, zt4, ptrV]; intro r4 hr4 <;> (refine k' _ _ ?_; clear k' K'))
  all_goals refine S.nil ?_
  all_goals simp only [ze, reduceIte, Nat.reduceEqDiff, Nat.reduceLT, Nat.reduceLeDiff, Nat.reduceAdd, reduceCtorEq, Nat.reduceMul, ptrV]
  all_goals apply_assumption
  have nw : ∀ x c, σ.obj x = some c → x ≠ r3 ∧ x ≠ r4 := by
    intro x c hx
    have m1 : x ≠ r3 := fun e => by
      rw [e, hr3] at hx
      exact absurd hx (by simp)
    refine ⟨m1, fun e => ?_⟩
    rw [← e] at hr4
    simp [m1, hx] at hr4
  have n34 : r3 ≠ r4 := fun e => by rw [← e] at hr4; simp at hr4
  have keep : ∀ (bv : Bool), (∀ x c, σ.obj x = some c → ((σ.setObj r3 (some [.c (.pointer (some ⟨g2, 0, none⟩))])).setObj r4 (some [.c (.bool bv)])).obj x = some c) ∧ ∀ k x, σ.gr k = some x → ((σ.setObj r3 (some [.c (.pointer (some ⟨g2, 0, none⟩))])).setObj r4 (some [.c (.bool bv)])).gr k = some x := fun bv => ⟨fun x c hx => by
    obtain ⟨m1, m2⟩ := nw x c hx
    simp [m1, m2, hx], fun k x hk => by simpa using hk⟩
  have pk : ∀ (q : Nat) (l : List (List Bd)), PSet q l σ → PSet q l ((σ.setObj r3 (some [.c (.pointer (some ⟨g2, 0, none⟩))])).setObj r4 (some [.c (.bool false)])) := fun q l hq => hq.frame (by
    obtain ⟨lv, ho⟩ := hq.ex
    obtain ⟨m1, m2⟩ := nw q _ ho
    simp [m1, m2]) (fun k _ => rfl)
  have hpa := pk g a hsa
  have hpb := pk g2 b hsb
  have o3 : ((σ.setObj r3 (some [.c (.pointer (some ⟨g2, 0, none⟩))])).setObj r4 (some [.c (.bool false)])).obj r3 = some [.c (.pointer (some ⟨g2, 0, none⟩))] := by simp [n34]
  have o4 : ((σ.setObj r3 (some [.c (.pointer (some ⟨g2, 0, none⟩))])).setObj r4 (some [.c (.bool false)])).obj r4 = some [.c (.bool false)] := by simp
  have kp : (∀ x c, σ.obj x = some c → ((σ.setObj r3 (some [.c (.pointer (some ⟨g2, 0, none⟩))])).setObj r4 (some [.c (.bool false)])).obj x = some c ∧ x ≠ r4) ∧ ∀ k x, σ.gr k = some x → ((σ.setObj r3 (some [.c (.pointer (some ⟨g2, 0, none⟩))])).setObj r4 (some [.c (.bool false)])).gr k = some x := ⟨fun x c hx => ⟨(keep false).1 x c hx, (nw x c hx).2⟩, (keep false).2⟩
  clear keep pk hr4
  generalize (σ.setObj r3 (some [.c (.pointer (some ⟨g2, 0, none⟩))])).setObj r4 (some [.c (.bool false)]) = σ0 at hpa hpb o3 o4 kp ⊢
  have fin : ∀ (bv : Bool), (∀ x c, σ.obj x = some c → (σ0.setObj r4 (some [.c (.bool bv)])).obj x = some c) ∧ ∀ k x, σ.gr k = some x → (σ0.setObj r4 (some [.c (.bool bv)])).gr k = some x := fun bv => ⟨fun x c hx => by
    obtain ⟨m1, m2⟩ := kp.1 x c hx
    simp [m1, m2], fun k x hk => kp.2 k x hk⟩
  refine AW.seq_j (fun s σ' => σ' = σ0 ∧ a.length = b.length ∧ s.t 0 = .c (.pointer (some ⟨g, 0, none⟩)) ∧ s.t 3 = .c (.pointer (some ⟨r3, 0, none⟩)) ∧ s.t 4 = .c (.pointer (some ⟨r4, 0, none⟩))) ?_ ?_
  · refine AW.seq_j (fun s σ' => σ' = σ0 ∧ s.t 10 = .c (.bool (!decide (a.length = b.length))) ∧ s.t 0 = .c (.pointer (some ⟨g, 0, none⟩)) ∧ s.t 3 = .c (.pointer (some ⟨r3, 0, none⟩)) ∧ s.t 4 = .c (.pointer (some ⟨r4, 0, none⟩))) ?_ ?_
    · skip
      all_goals refine AW.drawF (T := { sd := fun _ => false }) (fun _ _ h => by cases h) mixedO (.st 0 0 (.fork 1 (.st 2 2 (.st 3 2 (.st 4 0 .nil))) 2 (.st 1 2 (.st 3 2 (.st 4 0 .nil))))) rfl (by kernel_rfl) (by kernel_rfl) ?_
      all_goals (refine F.g rfl trivial rfl rfl fun K' k' => ?_; simp only [zz, reduceIte, Nat.reduceEqDiff, Nat.reduceAdd, ptrV, o3, isMap_c, List.getD_cons_zero, hbe]; refine k' _ _ ?_; clear k' K')
      all_goals (try first | refine F.fork ?_ ?_ | refine F.fork3 ?_ ?_ ?_)
      all_goals first | (refine F.g rfl trivial rfl rfl fun K' k' => ?_; simp only [zz, reduceIte, Nat.reduceEqDiff, Nat.reduceLT, Nat.reduceLeDiff, Nat.reduceAdd, reduceCtorEq, Nat.reduceMul, ptrV, o3, isMap_c, List.getD_cons_zero, hbe]; refine (len_spec g a _ hpa).to fun v σx hv => ?_; obtain ⟨rfl, rfl⟩ := hv <;> (refine k' _ _ ?_; clear k' K')) | (refine F.g rfl trivial rfl rfl fun K' k' => ?_; simp only [zz, reduceIte, Nat.reduceEqDiff, Nat.reduceLT, Nat.reduceLeDiff, Nat.reduceAdd, reduceCtorEq, Nat.reduceMul, ok65, sz65, ag65, ptrV, o3, isMap_c, List.getD_cons_zero, hbe]; refine k' _ _ ?_; clear k' K')
      all_goals first | (refine F.g rfl trivial rfl rfl fun K' k' => ?_; simp only [zz, reduceIte, Nat.reduceEqDiff, Nat.reduceLT, Nat.reduceLeDiff, Nat.reduceAdd, reduceCtorEq, Nat.reduceMul, ptrV, o3, isMap_c, List.getD_cons_zero, hbe]; refine (len_spec g a _ hpa).to fun v σx hv => ?_; obtain ⟨rfl, rfl⟩ := hv <;> (refine k' _ _ ?_; clear k' K')) | (refine F.g rfl trivial rfl rfl fun K' k' => ?_; simp only [zz, reduceIte, Nat.reduceEqDiff, Nat.reduceLT, Nat.reduceLeDiff, Nat.reduceAdd, reduceCtorEq, Nat.reduceMul, ok65, sz65, ag65, ptrV, o3, isMap_c, List.getD_cons_zero, hbe]; refine k' _ _ ?_; clear k' K')
      all_goals (refine F.g rfl trivial rfl rfl fun K' k' => ?_; simp only [zz, reduceIte, Nat.reduceEqDiff, Nat.reduceLT, Nat.reduceLeDiff, Nat.reduceAdd, reduceCtorEq, Nat.reduceMul, ptrV, o3, isMap_c, List.getD_cons_zero, hbe]; refine (len_spec g2 b _ hpb).to fun v σx hv => ?_; obtain ⟨rfl, rfl⟩ := hv <;> (refine k' _ _ ?_; clear k' K'))
      all_goals (refine F.g rfl trivial rfl rfl fun K' k' => ?_; simp only [zz, reduceIte, Nat.reduceEqDiff, Nat.reduceAdd, ptrV, o3, isMap_c, List.getD_cons_zero, hbe]; refine k' _ _ ?_; clear k' K')
      all_goals refine F.nil ?_
      all_goals simp only [ze, reduceIte, Nat.reduceEqDiff, Nat.reduceLT, Nat.reduceLeDiff, Nat.reduceAdd, reduceCtorEq, Nat.reduceMul, ptrV, o3, isMap_c, List.getD_cons_zero, hbe]
    rintro s σ' ⟨rfl, e10, e0, e3, e4⟩
    refine AW.cond (b := !decide (a.length = b.length)) e10 (fun hc => ?_) (fun hc => ?_)
    · have hc : ¬ a.length = b.length := by simpa using hc
      refine AW.seq_k fun K2 h2 => ?_
      all_goals refine AW.reg0 ?_
      all_goals (refine S.g rfl rfl fun K' k' => ?_; simp only [zz, reduceIte, Nat.reduceEqDiff, Nat.reduceLT, Nat.reduceLeDiff, Nat.reduceAdd, reduceCtorEq, Nat.reduceMul, ok4, sz4, ag4, e4, o4, isMap_c, List.length_cons, List.length_nil, List.drop_succ_cons, List.drop_nil, true_and]; refine k' _ _ ?_; clear k' K')
      all_goals refine S.nil ?_
      all_goals simp only [ze, reduceIte, Nat.reduceEqDiff, Nat.reduceLT, Nat.reduceLeDiff, Nat.reduceAdd, reduceCtorEq, Nat.reduceMul, e4, o4, isMap_c, List.length_cons, List.length_nil, List.drop_succ_cons, List.drop_nil, true_and]
      all_goals apply_assumption
      refine AW.ret ?_
      all_goals simp only [zs, reduceIte, Nat.reduceEqDiff, Nat.reduceLT, Nat.reduceLeDiff, Nat.reduceAdd, reduceCtorEq, Nat.reduceMul, ok4, sz4, ag4, cut, e4]
      have hf := fin false
      simp [qLoad, isMap, cut, okV, wk, wk1, sameS, hc]
      simpa using hf
    · exact AW.skip ⟨rfl, by simpa using hc, e0, e3, e4⟩
  rintro s σ' ⟨rfl, hlen, e0, e3, e4⟩
  refine AW.seq_j (fun s σ2 => σ2 = σ' ∧ s.t 4 = .c (.pointer (some ⟨r4, 0, none⟩)) ∧ a.all (hasL b ·) = true) ?_ ?_
  · refine AW.seq_j (fun s σ2 => σ2 = σ' ∧ s.t 12 = .fn (.func 95) [] [capV a] ∧ s.t 3 = .c (.pointer (some ⟨r3, 0, none⟩)) ∧ s.t 4 = .c (.pointer (some ⟨r4, 0, none⟩))) ?_ ?_
    · skip
      all_goals refine AW.reg0 ?_
      all_goals (refine S.g rfl rfl fun K' k' => ?_; simp only [zz, reduceIte, Nat.reduceEqDiff, Nat.reduceAdd, e0, e3, e4]; refine k' _ _ ?_; clear k' K')
      all_goals (refine S.g rfl rfl fun K' k' => ?_; simp only [zz, reduceIte, Nat.reduceEqDiff, Nat.reduceLT, Nat.reduceLeDiff, Nat.reduceAdd, reduceCtorEq, Nat.reduceMul, e0, e3, e4]; refine (setAll_spec g a _ hpa hr hok).to fun v σx hv => ?_; obtain ⟨rfl, rfl⟩ := hv <;> (refine k' _ _ ?_; clear k' K'))
      all_goals refine S.nil ?_
      all_goals simp only [ze, reduceIte, Nat.reduceEqDiff, Nat.reduceLT, Nat.reduceLeDiff, Nat.reduceAdd, reduceCtorEq, Nat.reduceMul, e0, e3, e4]
      skip
    rintro s σ2 ⟨rfl, e12, e3, e4⟩
    refine AW.block ?_   -- 0
    refine AW.rangeFunc (f := 95) (caps := [capV a]) (xs := a.map partA) (by simp [ev, e12]) (iter_all a (fun l hl => ⟨(hok l hl).attrs, (hok l hl).len⟩) (by omega)) (fun v hv => by simp at hv; rw [hv]; exact imm_cap a) (by decide) (fun i σ' => σ' = σ2 ∧ (a.take i).all (hasL b ·) = true) (fun e σ' => e = .ret ∧ σ' = σ2.setObj r4 (some [.c (.bool false)]) ∧ a.all (hasL b ·) = false) ⟨rfl, rfl⟩ ?_ ?_ ?_ (fun _ _ h => by cases h.1)
    · intro r i v σ4 hv hri
      obtain ⟨x, hx, rfl⟩ : ∃ x, a[i]? = some x ∧ v = partA x := by
        rw [List.getElem?_map, Option.map_eq_some_iff] at hv
        obtain ⟨x, h, e⟩ := hv
        exact ⟨x, h, e.symm⟩
      have hxm := List.mem_of_getElem? hx
      have f3 : ((plainS s).put 13 (partA x)).t 3 = .c (.pointer (some ⟨r3, 0, none⟩)) := by simp [plainS, keepV, e3]
      have f4 : ((plainS s).put 13 (partA x)).t 4 = .c (.pointer (some ⟨r4, 0, none⟩)) := by simp [plainS, keepV, e4]
      have f13 : ((plainS s).put 13 (partA x)).t 13 = .agg [.sl (x.map encBd)] := by simp [partA]
      generalize (plainS s).put 13 (partA x) = s1 at f3 f4 f13 ⊢
      obtain ⟨rfl, hall⟩ := hri
      have hhas := has_spec g2 b x σ4 hpb ht (by omega) (fun y hy => by have := (hokb y hy).len; omega)
      all_goals refine AWR.reg0 ⟨rfl, ?_⟩
      all_goals iterate 2 (refine S.g rfl rfl fun K' k' => ?_; simp only [zz, reduceIte, Nat.reduceEqDiff, Nat.reduceLT, Nat.reduceLeDiff, Nat.reduceAdd, reduceCtorEq, Nat.reduceMul, zt24, ok24, sz24, ag24, f13]; refine k' _ _ ?_; clear k' K')
      all_goals refine S.nil ?_
      all_goals simp only [ze, reduceIte, Nat.reduceEqDiff, Nat.reduceLT, Nat.reduceLeDiff, Nat.reduceAdd, reduceCtorEq, Nat.reduceMul, f13]
      refine AWR.block ?_
      refine AWR.seq_k fun K3 h3 => ?_
      all_goals refine AWR.reg0 ⟨rfl, ?_⟩
      all_goals iterate 2 (refine S.g rfl rfl fun K' k' => ?_; simp only [zz, reduceIte, Nat.reduceEqDiff, Nat.reduceLT, Nat.reduceLeDiff, Nat.reduceAdd, reduceCtorEq, Nat.reduceMul, ok65, sz65, ag65, ok24, sz24, ag24, f3, f4, o3, isMap_c, List.getD_cons_zero]; refine k' _ _ ?_; clear k' K')
      all_goals (refine S.g rfl rfl fun K' k' => ?_; simp only [zz, reduceIte, Nat.reduceEqDiff, Nat.reduceLT, Nat.reduceLeDiff, Nat.reduceAdd, reduceCtorEq, Nat.reduceMul, f3, f4, o3, isMap_c, List.getD_cons_zero]; refine hhas.to fun v σx hv => ?_; obtain ⟨rfl, rfl⟩ := hv <;> (refine k' _ _ ?_; clear k' K'))
      all_goals (refine S.g rfl rfl fun K' k' => ?_; simp only [zz, reduceIte, Nat.reduceEqDiff, Nat.reduceAdd, f3, f4, o3, isMap_c, List.getD_cons_zero]; refine k' _ _ ?_; clear k' K')
      all_goals refine S.nil ?_
      all_goals simp only [ze, reduceIte, Nat.reduceEqDiff, Nat.reduceLT, Nat.reduceLeDiff, Nat.reduceAdd, reduceCtorEq, Nat.reduceMul, f3, f4, o3, isMap_c, List.getD_cons_zero]
      all_goals apply_assumption
      refine AWR.cond (b := !hasL b x) (by simp [ev]) (fun hc2 => ?_) (fun hc2 => ?_)
      · have hc2 : hasL b x = false := by simpa using hc2
        refine AWR.seq_k fun K4 k4 => ?_
        all_goals refine AWR.reg0 ⟨rfl, ?_⟩
        all_goals (refine S.g rfl rfl fun K' k' => ?_; simp only [zz, reduceIte, Nat.reduceEqDiff, Nat.reduceLT, Nat.reduceLeDiff, Nat.reduceAdd, reduceCtorEq, Nat.reduceMul, ok4, sz4, ag4, f4, o4, isMap_c, List.length_cons, List.length_nil, List.drop_succ_cons, List.drop_nil, true_and]; refine k' _ _ ?_; clear k' K')
        all_goals refine S.nil ?_
        all_goals simp only [ze, reduceIte, Nat.reduceEqDiff, Nat.reduceLT, Nat.reduceLeDiff, Nat.reduceAdd, reduceCtorEq, Nat.reduceMul, f4, o4, isMap_c, List.length_cons, List.length_nil, List.drop_succ_cons, List.drop_nil, true_and]
        refine k4 _ _ (AWR.ret ⟨rfl, rfl, ?_⟩)
        rw [List.all_eq_false]
        exact ⟨x, hxm, by simp [hc2]⟩
      · have hc2 : hasL b x = true := by simpa using hc2
        refine AWR.skip ⟨rfl, ?_⟩
        rw [List.take_add_one, hx, List.all_append, hall]
        simp [hc2]
    · rintro σ4 ⟨rfl, hall⟩
      have hl : (a.map partA).length = a.length := by simp
      rw [hl, List.take_length] at hall
      exact ⟨rfl, by simp [plainS, keepV, e4], hall⟩
    · rintro σ4 ⟨_, rfl, hall⟩
      have hf := fin false
      show resVs _ _ _ _ _
      all_goals simp only [zs, reduceIte, Nat.reduceEqDiff, Nat.reduceLT, Nat.reduceLeDiff, Nat.reduceAdd, reduceCtorEq, Nat.reduceMul, ok4, sz4, ag4, cut, plainS, keepV, e4]
      simp [qLoad, isMap, cut, okV, wk, wk1, sameS, hall, resVs, resV, retV, plainS, keepV, e4, ok4, sz4, ag4]
      simpa using hf
  rintro s σ2 ⟨rfl, e4, hall⟩
  refine AW.seq_k fun K4 h4 => ?_
  all_goals refine AW.reg0 ?_
  all_goals (refine S.g rfl rfl fun K' k' => ?_; simp only [zz, reduceIte, Nat.reduceEqDiff, Nat.reduceLT, Nat.reduceLeDiff, Nat.reduceAdd, reduceCtorEq, Nat.reduceMul, ok4, sz4, ag4, e4, o4, isMap_c, List.length_cons, List.length_nil, List.drop_succ_cons, List.drop_nil, true_and]; refine k' _ _ ?_; clear k' K')
  all_goals refine S.nil ?_
  all_goals simp only [ze, reduceIte, Nat.reduceEqDiff, Nat.reduceLT, Nat.reduceLeDiff, Nat.reduceAdd, reduceCtorEq, Nat.reduceMul, e4, o4, isMap_c, List.length_cons, List.length_nil, List.drop_succ_cons, List.drop_nil, true_and]
  all_goals apply_assumption
  refine AW.ret ?_
  all_goals simp only [zs, reduceIte, Nat.reduceEqDiff, Nat.reduceLT, Nat.reduceLeDiff, Nat.reduceAdd, reduceCtorEq, Nat.reduceMul, ok4, sz4, ag4, cut, e4]
  have hf := fin true
  simp [qLoad, isMap, cut, okV, wk, wk1, sameS, hlen, hall]
  simpa using hf
end Go.Abs.M
namespace Go.Abs.M
open Go Go.Abs Go.Proofs
set_option maxRecDepth 20000
set_option linter.unusedSimpArgs false
set_option linter.unusedVariables false
theorem sameS_refl (l : List (List Bd)) : sameS l l = true := by
  simp only [sameS, decide_true, Bool.true_and, List.all_eq_true]
  exact fun x hx => hasL_self hx
/-- The set's rows when so many have come. -/
def comeL (S0 r : List (List Bd)) : List (List Bd) := r.foldl addL S0
theorem comeL_take {S0 l : List (List Bd)} {i : Nat} {x : List Bd} (h : l[i]? = some x) : comeL S0 (l.take (i + 1)) = addL (comeL S0 (l.take i)) x := by
  rw [List.take_add_one, h]
  simp [comeL]
theorem comeL_ind (S0 l : List (List Bd)) (hs : SrtL S0) : SrtL (comeL S0 l) ∧ (comeL S0 l).length ≤ S0.length + l.length ∧ ∀ y ∈ comeL S0 l, y ∈ S0 ∨ y ∈ l := by
  rw [← List.reverse_reverse l]
  induction l.reverse with
  | nil => exact ⟨hs, Nat.le_refl _, fun y h => .inl h⟩
  | cons x r ih =>
    obtain ⟨h1, h2, h3⟩ := ih
    have e : comeL S0 (x :: r).reverse = addL (comeL S0 r.reverse) x := by simp [comeL]
    rw [e]
    refine ⟨addL_srt h1, ?_, fun y hy => ?_⟩
    · have := addL_len (comeL S0 r.reverse) x
      simp at *; omega
    · rcases addL_mem hy with rfl | h
      · exact .inr (by simp)
      · rcases h3 y h with h | h
        · exact .inl h
        · exact .inr (by simp at h ⊢; first | exact .inl h | exact .inr h)
/-- Lists of two sets are two. -/
def TwoS (g g2 : Nat) (σ : Hp) : Prop := ∀ k, stN g2 σ = some k → stN g σ ≠ some k
theorem PSet.st {g : Nat} {l : List (List Bd)} {σ : Hp} (h : PSet g l σ) {k : Nat} (hk : stN g σ = some k) : σ.gr k = some ((24, 1), l.map encP) := by
  rcases h with ⟨_, h⟩ | ⟨j, h, hj⟩
  · simp [stN, h] at hk
  · simp [stN, h] at hk; rw [← hk]; exact hj
theorem stN_congr {g : Nat} {σ σ' : Hp} (h : σ'.obj g = σ.obj g) : stN g σ' = stN g σ := by simp [stN, h]
theorem PSet.over {g g2 : Nat} {l : List (List Bd)} {σ σ' : Hp} (h : PSet g2 l σ) (hne : g2 ≠ g) (ht : TwoS g g2 σ) (hf : PFr g σ σ') : PSet g2 l σ' ∧ TwoS g g2 σ' := by
  have ho := hf.obj g2 hne
  refine ⟨h.frame ho fun k hk => ?_, fun k hk => ?_⟩
  · have := h.st hk
    rw [this]
    exact (hf.gr k _ this (ht k hk)).1
  · rw [stN_congr ho] at hk
    exact (hf.gr k _ (h.st hk) (ht k hk)).2
theorem NewS.two {g g2 : Nat} {l l2 : List (List Bd)} {σ σ' : Hp} (h : NewS g2 l2 σ σ') (hg : PSet g l σ) : g ≠ g2 ∧ PSet g l σ' ∧ TwoS g g2 σ' := by
  have hne : g ≠ g2 := fun e => by
    obtain ⟨lv, ho⟩ := hg.ex
    rw [e, h.new] at ho; cases ho
  have ho := h.obj g hne
  refine ⟨hne, hg.frame ho fun k hk => ?_, fun k hk hk2 => ?_⟩
  · have := hg.st hk
    rw [this]; exact (h.gr k _ this).1
  · rw [stN_congr ho] at hk2
    exact (h.gr k _ (hg.st hk2)).2 hk
theorem PSet.obj {g q : Nat} {l : List (List Bd)} {σ : Hp} {c : Option (List V)} (h : PSet g l σ) (hne : g ≠ q) : PSet g l (σ.setObj q c) := h.frame (by simp [hne]) (fun k _ => rfl)
theorem TwoS.obj {g g2 q : Nat} {σ : Hp} {c : Option (List V)} (h : TwoS g g2 σ) (n1 : g ≠ q) (n2 : g2 ≠ q) : TwoS g g2 (σ.setObj q c) := fun k hk => by
  rw [stN_congr (σ' := σ.setObj q c) (σ := σ) (by simp [n2])] at hk
  rw [stN_congr (σ' := σ.setObj q c) (σ := σ) (by simp [n1])]
  exact h k hk
/-- What holds of the two sets and the copy. -/
structure SI (g q g2 : Nat) (S S0 : List (List Bd)) (σ : Hp) : Prop where
  s : PSet g S σ
  r : σ.obj q = some [.sl (S.map encP)]
  c : PSet g2 S0 σ
  two : TwoS g g2 σ
theorem setsNat (a b c d e : Nat) (hr : (a + b + 1) * 24 ≤ 140737488355328) (hlen : c ≤ a) (hln : d ≤ c + e) (hmin : e ≤ b) : (d + 1) * 24 ≤ 140737488355328 ∧ d < 140737488355329 ∧ d * 24 ≤ 140737488355328 := by
  refine ⟨?_, ?_, ?_⟩
  · exact Nat.le_trans (Nat.mul_le_mul_right 24 (by omega)) hr
  · have := Nat.le_trans (Nat.mul_le_mul_right 24 (show d + 1 ≤ a + b + 1 by omega)) hr
    omega
  · exact Nat.le_trans (Nat.mul_le_mul_right 24 (by omega)) hr
theorem setsLim {S0 r0 r1 : List (List Bd)} {i : Nat} (hr : (r0.length + r1.length + 1) * 24 ≤ 140737488355328) (hlen : S0.length ≤ r0.length) (hs : SrtL S0) (h0 : ∀ x ∈ S0, okI x) (h1 : ∀ x ∈ r1, okI x) :
    SrtL (comeL S0 (r1.take i)) ∧ ((comeL S0 (r1.take i)).length + 1) * 24 ≤ 140737488355328 ∧ (∀ y ∈ comeL S0 (r1.take i), y.length < 4611686018427387904) ∧ (comeL S0 (r1.take i)).length < 140737488355329 ∧ (comeL S0 (r1.take i)).length * 24 ≤ 140737488355328 := by
  obtain ⟨hsr, hln, hmm⟩ := comeL_ind S0 (r1.take i) hs
  have hmin : (r1.take i).length ≤ r1.length := by rw [List.length_take]; exact Nat.min_le_right _ _
  generalize comeL S0 (r1.take i) = rs at hsr hln hmm ⊢
  obtain ⟨q1, q2, q3⟩ := setsNat _ _ _ _ _ hr hlen hln hmin
  clear hr
  refine ⟨hsr, q1, fun y hy => ?_, q2, q3⟩
  rcases hmm y hy with h | h
  · have := (h0 y h).len; omega
  · have := (h1 y (List.mem_of_mem_take h)).len; omega
set_option maxHeartbeats 1000000 in
theorem sets_spec (r0 r1 : List (List Bd)) (hr : (r0.length + r1.length + 1) * 24 ≤ 140737488355328) (hk0 : ∀ x ∈ r0, okI x) (hk1 : ∀ x ∈ r1, okI x) :
    ACalls Try.prog 8 [.sl (r0.map encP), .sl (r1.map encP)] Hp.empty (fun v _ => v = .c (.bool true)) := by
  refine ACalls.intro Try.call8 Try.func8 rfl Try.ntmps8 Try.results8 (by simp) ?_
  have hr0 : r0.length * 24 ≤ 140737488355328 := by omega
  refine AW.seq_k fun K1 h1 => ?_
  all_goals refine AW.reg0 ?_
  all_goals (refine S.g rfl rfl fun K' k' => ?_; simp only [zz, reduceIte, Nat.reduceEqDiff, Nat.reduceAdd]; refine k' _ _ ?_; clear k' K')
  all_goals refine S.nil ?_
  all_goals simp only [ze, reduceIte, Nat.reduceEqDiff, Nat.reduceLT, Nat.reduceLeDiff, Nat.reduceAdd, reduceCtorEq, Nat.reduceMul]
  all_goals apply_assumption
  refine AW.seq_j (fun s σ' => ∃ g q, s.t 0 = .sl (r0.map encP) ∧ s.t 1 = .sl (r1.map encP) ∧ s.t 5 = .c (.pointer (some ⟨g, 0, none⟩)) ∧ s.t 6 = .c (.pointer (some ⟨q, 0, none⟩)) ∧ g ≠ q ∧ PSet g (setL r0) σ' ∧ σ'.obj q = some [.sl ((setL r0).map encP)]) ?_ ?_
  · skip
    all_goals refine AW.reg0 ?_
    all_goals (refine S.g rfl rfl fun K' k' => ?_; simp only [zz, reduceIte, Nat.reduceEqDiff, Nat.reduceAdd]; refine k' _ _ ?_; clear k' K')
    all_goals (refine S.g rfl rfl fun K' k' => ?_; simp only [zz, reduceIte, Nat.reduceEqDiff, Nat.reduceLT, Nat.reduceLeDiff, Nat.reduceAdd, reduceCtorEq, Nat.reduceMul]; refine (newSet_spec r0 _ hr0 hk0).to fun v σ1 hv => ?_; obtain ⟨g, rfl, hnew⟩ := hv <;> (refine k' _ _ ?_; clear k' K'))
    all_goals (refine S.g rfl rfl fun K' k' => ?_; simp only [zz, reduceIte, Nat.reduceEqDiff, Nat.reduceAdd]; refine k' _ _ ?_; clear k' K')
    all_goals (refine S.g rfl rfl fun K' k' => ?_; simp only [zz, reduceIte, Nat.reduceEqDiff, Nat.reduceLT, Nat.reduceLeDiff, Nat.reduceAdd, reduceCtorEq, Nat.reduceMul]; refine (rnewSet_spec r0 _ hr0 hk0).to fun v σ1x hv => ?_; obtain ⟨q, rfl, hq, rfl⟩ := hv <;> (refine k' _ _ ?_; clear k' K'))
    all_goals iterate 2 (refine S.g rfl rfl fun K' k' => ?_; simp only [zz, reduceIte, Nat.reduceEqDiff, Nat.reduceAdd]; refine k' _ _ ?_; clear k' K')
    all_goals refine S.nil ?_
    all_goals simp only [ze, reduceIte, Nat.reduceEqDiff, Nat.reduceLT, Nat.reduceLeDiff, Nat.reduceAdd, reduceCtorEq, Nat.reduceMul]
    all_goals simp only [zs, reduceIte, Nat.reduceEqDiff, Nat.reduceLT, Nat.reduceLeDiff, Nat.reduceAdd, reduceCtorEq, Nat.reduceMul]
    have hgq : g ≠ q := fun e => by
      obtain ⟨lv, ho⟩ := hnew.set.ex
      rw [e, hq] at ho; cases ho
    exact ⟨g, q, rfl, rfl, hgq, hnew.set.obj hgq, by simp⟩
  rintro s σ0 ⟨g, q, e0, e1, e5, e6, hgq, hps, hq⟩
  obtain ⟨hsrt, hlen, hmem⟩ := setL_ind r0
  have hpok := setL_ok r0
  have hsame := setL_same hsrt hpok
  generalize hS0 : setL r0 = S0 at hps hq hsrt hlen hmem hpok hsame
  have hSk : ∀ x ∈ S0, okI x := fun x hx => hk0 x (hmem x hx)
  have hl0 : S0.length * 24 ≤ 140737488355328 := by omega
  refine AW.seq_j (fun s σ' => σ' = σ0 ∧ s.t 0 = .sl (r0.map encP) ∧ s.t 1 = .sl (r1.map encP) ∧ s.t 5 = .c (.pointer (some ⟨g, 0, none⟩)) ∧ s.t 6 = .c (.pointer (some ⟨q, 0, none⟩))) ?_ ?_
  · refine AW.seq_j (fun s σ' => σ' = σ0 ∧ s.t 30 = .c (.bool false) ∧ s.t 0 = .sl (r0.map encP) ∧ s.t 1 = .sl (r1.map encP) ∧ s.t 5 = .c (.pointer (some ⟨g, 0, none⟩)) ∧ s.t 6 = .c (.pointer (some ⟨q, 0, none⟩))) ?_ ?_
    · skip
      all_goals refine AW.drawF (T := { sd := fun _ => false }) (fun _ _ h => by cases h) mixedO (.st 0 2 (.st 1 0 (.st 2 0 (.st 3 0 (.st 4 0 (.st 5 0 (.st 6 0 (.st 7 0 (.st 9 0 (.st 10 0 (.st 11 0 (.fork 8 (.st 12 2 (.st 13 2 (.st 14 0 (.st 15 0 .nil)))) 12 (.st 8 2 (.st 13 2 (.st 14 0 (.st 15 0 .nil)))))))))))))))) rfl (by kernel_rfl) (by kernel_rfl) ?_
      all_goals (refine F.g rfl trivial rfl rfl fun K' k' => ?_; simp only [zz, reduceIte, Nat.reduceEqDiff, Nat.reduceLT, Nat.reduceLeDiff, Nat.reduceAdd, reduceCtorEq, Nat.reduceMul, e0, e1, e5, e6, hq, isMap_sl, List.getD_cons_zero, un65, TypeDesc.pointer.injEq]; refine PCalls.eqto begun_spec ?_; refine S.bool fun b a15 => ?_; cases b <;> (try (exfalso; first | exact Bool.noConfusion a15 | (have h := of_decide_eq_true a15; omega) | (have h := of_decide_eq_false a15; omega))) <;> (refine k' _ _ ?_; clear k' K'))
      all_goals iterate 2 (refine F.g rfl trivial rfl rfl fun K' k' => ?_; simp only [zz, reduceIte, Nat.reduceEqDiff, Nat.reduceAdd, e0, e1, e5, e6, hq, isMap_sl, List.getD_cons_zero, un65, TypeDesc.pointer.injEq]; refine k' _ _ ?_; clear k' K')
      all_goals (first | (refine F.y rfl trivial rfl rfl rfl rfl fun K' k' => ?_; simp only [zz, reduceIte, Nat.reduceEqDiff, Nat.reduceAdd, e0, e1, e5, e6, hq, isMap_sl, List.getD_cons_zero, un65, TypeDesc.pointer.injEq]; refine k' _ _ ?_; clear k' K') | ((first | refine F.x rfl (fun h => by cases h) rfl rfl rfl rfl fun K' k' => ?_ | refine F.u rfl (fun h => by cases h) rfl rfl rfl rfl fun K' k' => ?_); simp only [ze, reduceIte, Nat.reduceEqDiff]; refine k' _ _ ?_; clear k' K'))
      all_goals (first | (refine F.y rfl trivial rfl rfl rfl rfl fun K' k' => ?_; simp only [zz, reduceIte, Nat.reduceEqDiff, Nat.reduceLT, Nat.reduceLeDiff, Nat.reduceAdd, reduceCtorEq, Nat.reduceMul, un65, e0, e1, e5, e6, hq, isMap_sl, List.getD_cons_zero, un65, TypeDesc.pointer.injEq]; refine S.bool fun b a19 => ?_; cases b <;> (try (exfalso; first | exact Bool.noConfusion a19 | (have h := of_decide_eq_true a19; omega) | (have h := of_decide_eq_false a19; omega))) <;> (refine k' _ _ ?_; clear k' K')) | ((first | refine F.x rfl (fun h => by cases h) rfl rfl rfl rfl fun K' k' => ?_ | refine F.u rfl (fun h => by cases h) rfl rfl rfl rfl fun K' k' => ?_); simp only [ze, reduceIte, Nat.reduceEqDiff]; refine k' _ _ ?_; clear k' K'))
      all_goals iterate 2 (refine F.g rfl trivial rfl rfl fun K' k' => ?_; simp only [zz, reduceIte, Nat.reduceEqDiff, Nat.reduceAdd, e0, e1, e5, e6, hq, isMap_sl, List.getD_cons_zero, un65, TypeDesc.pointer.injEq]; refine k' _ _ ?_; clear k' K')
      all_goals iterate 4 (first | (refine F.y rfl trivial rfl rfl rfl rfl fun K' k' => ?_; simp only [zz, reduceIte, Nat.reduceEqDiff, Nat.reduceLT, Nat.reduceLeDiff, Nat.reduceAdd, reduceCtorEq, Nat.reduceMul, of76_0, e0, e1, e5, e6, hq, isMap_sl, List.getD_cons_zero, un65, TypeDesc.pointer.injEq]; refine k' _ _ ?_; clear k' K') | ((first | refine F.x rfl (fun h => by cases h) rfl rfl rfl rfl fun K' k' => ?_ | refine F.u rfl (fun h => by cases h) rfl rfl rfl rfl fun K' k' => ?_); simp only [ze, reduceIte, Nat.reduceEqDiff]; refine k' _ _ ?_; clear k' K'))
      all_goals (try first | refine F.fork ?_ ?_ | refine F.fork3 ?_ ?_ ?_)
      all_goals first | (first | (refine F.y rfl trivial rfl rfl rfl rfl fun K' k' => ?_; simp only [zz, reduceIte, Nat.reduceEqDiff, Nat.reduceLT, Nat.reduceLeDiff, Nat.reduceAdd, reduceCtorEq, Nat.reduceMul, e0, e1, e5, e6, hq, isMap_sl, List.getD_cons_zero, un65, TypeDesc.pointer.injEq]; refine (setAll_spec g S0 _ hps hl0 hSk).to fun v σx hv => ?_; obtain ⟨rfl, rfl⟩ := hv <;> (refine k' _ _ ?_; clear k' K')) | ((first | refine F.x rfl (fun h => by cases h) rfl rfl rfl rfl fun K' k' => ?_ | refine F.u rfl (fun h => by cases h) rfl rfl rfl rfl fun K' k' => ?_); simp only [ze, reduceIte, Nat.reduceEqDiff]; refine k' _ _ ?_; clear k' K')) | (first | (refine F.y rfl trivial rfl rfl rfl rfl fun K' k' => ?_; simp only [zz, reduceIte, Nat.reduceEqDiff, Nat.reduceLT, Nat.reduceLeDiff, Nat.reduceAdd, reduceCtorEq, Nat.reduceMul, ok64, sz64, ag64, e0, e1, e5, e6, hq, isMap_sl, List.getD_cons_zero, un65, TypeDesc.pointer.injEq]; refine k' _ _ ?_; clear k' K') | ((first | refine F.x rfl (fun h => by cases h) rfl rfl rfl rfl fun K' k' => ?_ | refine F.u rfl (fun h => by cases h) rfl rfl rfl rfl fun K' k' => ?_); simp only [ze, reduceIte, Nat.reduceEqDiff]; refine k' _ _ ?_; clear k' K'))
      all_goals first | (first | (refine F.y rfl trivial rfl rfl rfl rfl fun K' k' => ?_; simp only [zz, reduceIte, Nat.reduceEqDiff, Nat.reduceLT, Nat.reduceLeDiff, Nat.reduceAdd, reduceCtorEq, Nat.reduceMul, e0, e1, e5, e6, hq, isMap_sl, List.getD_cons_zero, un65, TypeDesc.pointer.injEq]; refine (setAll_spec g S0 _ hps hl0 hSk).to fun v σx hv => ?_; obtain ⟨rfl, rfl⟩ := hv <;> (refine k' _ _ ?_; clear k' K')) | ((first | refine F.x rfl (fun h => by cases h) rfl rfl rfl rfl fun K' k' => ?_ | refine F.u rfl (fun h => by cases h) rfl rfl rfl rfl fun K' k' => ?_); simp only [ze, reduceIte, Nat.reduceEqDiff]; refine k' _ _ ?_; clear k' K')) | (first | (refine F.y rfl trivial rfl rfl rfl rfl fun K' k' => ?_; simp only [zz, reduceIte, Nat.reduceEqDiff, Nat.reduceLT, Nat.reduceLeDiff, Nat.reduceAdd, reduceCtorEq, Nat.reduceMul, ok64, sz64, ag64, e0, e1, e5, e6, hq, isMap_sl, List.getD_cons_zero, un65, TypeDesc.pointer.injEq]; refine k' _ _ ?_; clear k' K') | ((first | refine F.x rfl (fun h => by cases h) rfl rfl rfl rfl fun K' k' => ?_ | refine F.u rfl (fun h => by cases h) rfl rfl rfl rfl fun K' k' => ?_); simp only [ze, reduceIte, Nat.reduceEqDiff]; refine k' _ _ ?_; clear k' K'))
      all_goals (first | (refine F.y rfl trivial rfl rfl rfl rfl fun K' k' => ?_; simp only [zz, reduceIte, Nat.reduceEqDiff, Nat.reduceLT, Nat.reduceLeDiff, Nat.reduceAdd, reduceCtorEq, Nat.reduceMul, e0, e1, e5, e6, hq, isMap_sl, List.getD_cons_zero, un65, TypeDesc.pointer.injEq]; refine PCalls.eqto (told_spec S0 hl0 hSk) ?_ <;> (refine k' _ _ ?_; clear k' K')) | ((first | refine F.x rfl (fun h => by cases h) rfl rfl rfl rfl fun K' k' => ?_ | refine F.u rfl (fun h => by cases h) rfl rfl rfl rfl fun K' k' => ?_); simp only [ze, reduceIte, Nat.reduceEqDiff]; refine k' _ _ ?_; clear k' K'))
      all_goals (first | (refine F.y rfl trivial rfl rfl rfl rfl fun K' k' => ?_; simp only [zz, reduceIte, Nat.reduceEqDiff, Nat.reduceAdd, e0, e1, e5, e6, hq, isMap_sl, List.getD_cons_zero, un65, TypeDesc.pointer.injEq]; refine k' _ _ ?_; clear k' K') | ((first | refine F.x rfl (fun h => by cases h) rfl rfl rfl rfl fun K' k' => ?_ | refine F.u rfl (fun h => by cases h) rfl rfl rfl rfl fun K' k' => ?_); simp only [ze, reduceIte, Nat.reduceEqDiff]; refine k' _ _ ?_; clear k' K'))
      all_goals (refine F.g rfl trivial rfl rfl fun K' k' => ?_; simp only [zz, reduceIte, Nat.reduceEqDiff, Nat.reduceAdd, e0, e1, e5, e6, hq, isMap_sl, List.getD_cons_zero, un65, TypeDesc.pointer.injEq]; refine k' _ _ ?_; clear k' K')
      all_goals refine F.nil ?_
      all_goals simp only [ze, reduceIte, Nat.reduceEqDiff, Nat.reduceLT, Nat.reduceLeDiff, Nat.reduceAdd, reduceCtorEq, Nat.reduceMul, e0, e1, e5, e6, hq, isMap_sl, List.getD_cons_zero, un65, TypeDesc.pointer.injEq]
    rintro s σ' ⟨rfl, e30, e0, e1, e5, e6⟩
    exact AW.cond (b := false) e30 (fun hc => by cases hc) (fun _ => AW.skip ⟨rfl, e0, e1, e5, e6⟩)
  rintro s σ' ⟨rfl, e0, e1, e5, e6⟩
  refine AW.seq_j (fun s σ2 => ∃ g2, s.t 0 = .sl (r0.map encP) ∧ s.t 1 = .sl (r1.map encP) ∧ s.t 5 = .c (.pointer (some ⟨g, 0, none⟩)) ∧ s.t 6 = .c (.pointer (some ⟨q, 0, none⟩)) ∧ s.t 7 = .c (.pointer (some ⟨g2, 0, none⟩)) ∧ g ≠ g2 ∧ q ≠ g2 ∧ SI g q g2 S0 S0 σ2) ?_ ?_
  · skip
    all_goals refine AW.reg0 ?_
    all_goals (refine S.g rfl rfl fun K' k' => ?_; simp only [zz, reduceIte, Nat.reduceEqDiff, Nat.reduceAdd, e5]; refine k' _ _ ?_; clear k' K')
    all_goals (refine S.g rfl rfl fun K' k' => ?_; simp only [zz, reduceIte, Nat.reduceEqDiff, Nat.reduceLT, Nat.reduceLeDiff, Nat.reduceAdd, reduceCtorEq, Nat.reduceMul, e5]; refine (sclone_spec g S0 _ hps hl0 hSk).to fun v σ1 hv => ?_; obtain ⟨g2, rfl, hnew⟩ := hv <;> (refine k' _ _ ?_; clear k' K'))
    all_goals (refine S.g rfl rfl fun K' k' => ?_; simp only [zz, reduceIte, Nat.reduceEqDiff, Nat.reduceAdd, e5]; refine k' _ _ ?_; clear k' K')
    all_goals refine S.nil ?_
    all_goals simp only [ze, reduceIte, Nat.reduceEqDiff, Nat.reduceLT, Nat.reduceLeDiff, Nat.reduceAdd, reduceCtorEq, Nat.reduceMul, e5]
    all_goals simp only [zs, reduceIte, Nat.reduceEqDiff, Nat.reduceLT, Nat.reduceLeDiff, Nat.reduceAdd, reduceCtorEq, Nat.reduceMul, e0, e1, e5, e6]
    rw [hsame] at hnew
    obtain ⟨n1, n2, n3⟩ := hnew.two hps
    have n4 : q ≠ g2 := fun e => by
      have := hnew.new
      rw [← e, hq] at this; cases this
    exact ⟨g2, rfl, n1, n4, ⟨n2, (hnew.obj q n4).trans hq, hnew.set, n3⟩⟩
  clear hps hq e0 e1 e5 e6
  rintro s σ2 ⟨g2, e0, e1, e5, e6, e7, hgg, hqg, hsi0⟩
  refine AW.seq_j (fun s σ3 => σ3 = σ2 ∧ s.t 0 = .sl (r0.map encP) ∧ s.t 1 = .sl (r1.map encP) ∧ s.t 5 = .c (.pointer (some ⟨g, 0, none⟩)) ∧ s.t 6 = .c (.pointer (some ⟨q, 0, none⟩)) ∧ s.t 7 = .c (.pointer (some ⟨g2, 0, none⟩))) ?_ ?_
  · have hsm := same_spec g g2 S0 S0 σ2 hsi0.s hsi0.c hsrt hl0 hl0 hSk hSk
    rw [sameS_refl] at hsm
    refine AW.seq_k fun K2 h2 => ?_
    all_goals refine AW.reg0 ?_
    all_goals (refine S.g rfl rfl fun K' k' => ?_; simp only [zz, reduceIte, Nat.reduceEqDiff, Nat.reduceAdd, e5, e7, un65, TypeDesc.pointer.injEq]; refine k' _ _ ?_; clear k' K')
    all_goals (refine S.g rfl rfl fun K' k' => ?_; simp only [zz, reduceIte, Nat.reduceEqDiff, Nat.reduceLT, Nat.reduceLeDiff, Nat.reduceAdd, reduceCtorEq, Nat.reduceMul, un65, e5, e7, un65, TypeDesc.pointer.injEq]; refine S.bool fun b a34 => ?_; cases b <;> (try (exfalso; first | exact Bool.noConfusion a34 | (have h := of_decide_eq_true a34; omega) | (have h := of_decide_eq_false a34; omega))) <;> (refine k' _ _ ?_; clear k' K'))
    all_goals (refine S.g rfl rfl fun K' k' => ?_; simp only [zz, reduceIte, Nat.reduceEqDiff, Nat.reduceAdd, e5, e7, un65, TypeDesc.pointer.injEq]; refine k' _ _ ?_; clear k' K')
    all_goals iterate 2 (first | (refine S.y rfl rfl rfl rfl fun K' k' => ?_; simp only [zz, reduceIte, Nat.reduceEqDiff, Nat.reduceAdd, e5, e7, un65, TypeDesc.pointer.injEq]; refine k' _ _ ?_; clear k' K') | ((first | refine S.x rfl rfl rfl rfl fun K' k' => ?_ | refine S.u rfl rfl rfl rfl fun K' k' => ?_); simp only [ze, reduceIte, Nat.reduceEqDiff]; refine k' _ _ ?_; clear k' K'))
    all_goals (first | (refine S.y rfl rfl rfl rfl fun K' k' => ?_; simp only [zz, reduceIte, Nat.reduceEqDiff, Nat.reduceLT, Nat.reduceLeDiff, Nat.reduceAdd, reduceCtorEq, Nat.reduceMul, e5, e7, un65, TypeDesc.pointer.injEq]; refine hsm.to fun v σx hv => ?_; obtain ⟨rfl, rfl⟩ := hv <;> (refine k' _ _ ?_; clear k' K')) | ((first | refine S.x rfl rfl rfl rfl fun K' k' => ?_ | refine S.u rfl rfl rfl rfl fun K' k' => ?_); simp only [ze, reduceIte, Nat.reduceEqDiff]; refine k' _ _ ?_; clear k' K'))
    all_goals (first | (refine S.y rfl rfl rfl rfl fun K' k' => ?_; simp only [zz, reduceIte, Nat.reduceEqDiff, Nat.reduceAdd, e5, e7, un65, TypeDesc.pointer.injEq]; refine k' _ _ ?_; clear k' K') | ((first | refine S.x rfl rfl rfl rfl fun K' k' => ?_ | refine S.u rfl rfl rfl rfl fun K' k' => ?_); simp only [ze, reduceIte, Nat.reduceEqDiff]; refine k' _ _ ?_; clear k' K'))
    all_goals (refine S.g rfl rfl fun K' k' => ?_; simp only [zz, reduceIte, Nat.reduceEqDiff, Nat.reduceAdd, e5, e7, un65, TypeDesc.pointer.injEq]; refine k' _ _ ?_; clear k' K')
    all_goals refine S.nil ?_
    all_goals simp only [ze, reduceIte, Nat.reduceEqDiff, Nat.reduceLT, Nat.reduceLeDiff, Nat.reduceAdd, reduceCtorEq, Nat.reduceMul, e5, e7, un65, TypeDesc.pointer.injEq]
    all_goals apply_assumption
    refine AW.cond (b := false) (by simp [ev]) (fun hc => by cases hc) (fun _ => AW.skip ?_)
    all_goals simp only [zs, reduceIte, Nat.reduceEqDiff, Nat.reduceLT, Nat.reduceLeDiff, Nat.reduceAdd, reduceCtorEq, Nat.reduceMul, e0, e1, e5, e6, e7]
    done
  rintro s σ3 ⟨rfl, e0, e1, e5, e6, e7⟩
  refine AW.seq_j (fun s σ' => s.t 0 = .sl (r0.map encP) ∧ s.t 5 = .c (.pointer (some ⟨g, 0, none⟩)) ∧ s.t 6 = .c (.pointer (some ⟨q, 0, none⟩)) ∧ s.t 7 = .c (.pointer (some ⟨g2, 0, none⟩)) ∧ SI g q g2 (comeL S0 r1) S0 σ') ?_ ?_
  · refine AW.seq_k fun K3 h3 => ?_
    all_goals refine AW.reg0 ?_
    all_goals iterate 3 (refine S.g rfl rfl fun K' k' => ?_; simp only [zz, reduceIte, Nat.reduceEqDiff, Nat.reduceLT, Nat.reduceLeDiff, Nat.reduceAdd, reduceCtorEq, Nat.reduceMul, sl64, el64, ok24, sz24, ag24, e1, List.length_map]; refine k' _ _ ?_; clear k' K')
    all_goals refine S.nil ?_
    all_goals simp only [ze, reduceIte, Nat.reduceEqDiff, Nat.reduceLT, Nat.reduceLeDiff, Nat.reduceAdd, reduceCtorEq, Nat.reduceMul, e1, List.length_map]
    all_goals apply_assumption
    refine AW.block ?_   -- 0
    refine AW.loop (fun m s σ' => ∃ i : Nat, m = r1.length - i ∧ i ≤ r1.length ∧ s.t 0 = .sl (r0.map encP) ∧ s.t 5 = .c (.pointer (some ⟨g, 0, none⟩)) ∧ s.t 6 = .c (.pointer (some ⟨q, 0, none⟩)) ∧ s.t 7 = .c (.pointer (some ⟨g2, 0, none⟩)) ∧ s.t 41 = .sl (r1.map encP) ∧ s.t 42 = .c (.int .i64 (r1.length : Nat)) ∧ s.t 43 = .c (.int .i64 (i : Nat)) ∧ SI g q g2 (comeL S0 (r1.take i)) S0 σ') r1.length ?_ ?_
    · refine ⟨0, by omega, Nat.zero_le _, ?_⟩
      all_goals simp only [zs, reduceIte, Nat.reduceEqDiff, Nat.reduceLT, Nat.reduceLeDiff, Nat.reduceAdd, reduceCtorEq, Nat.reduceMul, e0, e5, e6, e7]
      exact ⟨rfl, hsi0⟩
    rintro m s σ' ⟨i, hm, hi, e0, e5, e6, e7, e41, e42, e43, hsi⟩
    refine AW.seq_k fun K4 h4 => ?_
    all_goals refine AW.reg0 ?_
    all_goals (refine S.g rfl rfl fun K' k' => ?_; simp only [zz, reduceIte, Nat.reduceEqDiff, Nat.reduceAdd, e42, e43]; refine k' _ _ ?_; clear k' K')
    all_goals refine S.nil ?_
    all_goals simp only [ze, reduceIte, Nat.reduceEqDiff, Nat.reduceLT, Nat.reduceLeDiff, Nat.reduceAdd, reduceCtorEq, Nat.reduceMul, e42, e43]
    all_goals apply_assumption
    refine AW.seq_k fun K5 h5 => ?_
    refine AW.cond (b := decide (i < r1.length)) (by simp [ev]) (fun hc => ?_) (fun hc => ?_)
    · have hc := of_decide_eq_true hc
      refine AW.skip ?_
      all_goals simp only [zs, reduceIte, Nat.reduceEqDiff, Nat.reduceLT, Nat.reduceLeDiff, Nat.reduceAdd, reduceCtorEq, Nat.reduceMul]
      all_goals apply_assumption
      obtain ⟨x, hx⟩ : ∃ x, r1[i]? = some x := ⟨_, List.getElem?_eq_getElem hc⟩
      have hxk := hk1 x (List.mem_of_getElem? hx)
      have hxe := encP_gd hx
      have hsl := setsLim (i := i) hr hlen hsrt hSk hk1
      have hct := comeL_take (S0 := S0) hx
      generalize comeL S0 (r1.take i) = rs at hsi hct hsl
      obtain ⟨hsr, hn, hll, hn2, hn3⟩ := hsl
      have hw : IntKind.i64.wrap ((i : Int) + 1) = ((i + 1 : Nat) : Int) := by rw [wrap_small _ (by omega) (by omega)]; rfl
      have hh1 := has_spec g rs x σ' hsi.s hsr hn2 hll
      have hh2 := rhas_spec q rs x σ' hsi.r hn3 hll
      have hh3 := add_spec g rs x σ' hsi.s hsr hn hll hxk
      refine AW.seq_k fun K6 h6 => ?_
      refine AW.block ?_   -- 1
      refine AW.seq_k fun K7 h7 => ?_
      all_goals refine AW.reg0 ?_
      all_goals iterate 4 (refine S.g rfl rfl fun K' k' => ?_; simp only [zz, reduceIte, Nat.reduceEqDiff, Nat.reduceLT, Nat.reduceLeDiff, Nat.reduceAdd, reduceCtorEq, Nat.reduceMul, sl64, el64, ok24, sz24, ag24, zt24, e41, e43, List.length_map, hc, hxe]; refine k' _ _ ?_; clear k' K')
      all_goals refine S.nil ?_
      all_goals simp only [ze, reduceIte, Nat.reduceEqDiff, Nat.reduceLT, Nat.reduceLeDiff, Nat.reduceAdd, reduceCtorEq, Nat.reduceMul, e41, e43, List.length_map, hc, hxe]
      all_goals apply_assumption
      refine AW.seq_j (fun s σ' => s.t 72 = .c (.bool false) ∧ s.t 0 = .sl (r0.map encP) ∧ s.t 5 = .c (.pointer (some ⟨g, 0, none⟩)) ∧ s.t 6 = .c (.pointer (some ⟨q, 0, none⟩)) ∧ s.t 7 = .c (.pointer (some ⟨g2, 0, none⟩)) ∧ s.t 41 = .sl (r1.map encP) ∧ s.t 42 = .c (.int .i64 (r1.length : Nat)) ∧ s.t 43 = .c (.int .i64 (i : Nat)) ∧ SI g q g2 (addL rs x) S0 σ') ?_ ?_
      · skip
        all_goals refine AW.drawF (T := { sd := fun d => d == 9 }) (fun _ _ h => by cases h) mixedO (.st 0 0 (.st 3 0 (.st 1 1 (.st 4 1 (.st 2 2 (.st 5 2 (.st 6 0 (.st 7 0 (.st 8 0 (.st 11 0 (.st 9 1 (.st 12 1 (.st 10 2 (.st 13 2 (.st 14 0 (.st 15 0 (.st 16 0 (.st 17 0 (.st 19 0 (.st 20 0 (.st 21 0 (.fork 18 (.st 22 2 (.st 23 0 (.st 24 0 (.st 25 0 .nil)))) 22 (.st 23 0 (.st 18 2 (.st 24 0 (.st 25 0 .nil)))))))))))))))))))))))))) rfl (by kernel_rfl) (by kernel_rfl) ?_
        all_goals iterate 2 (refine F.g rfl trivial rfl rfl fun K' k' => ?_; simp only [zz, reduceIte, Nat.reduceEqDiff, Nat.reduceAdd, e5, e6, isMap_sl, List.getD_cons_zero, bne_self_eq_false, Hp.setObj_obj, if_true, List.length_map]; refine k' _ _ ?_; clear k' K')
        all_goals iterate 2 (refine F.g rfl (by first | rfl | (simp only [stC, ze, reduceIte, Nat.reduceEqDiff, e5, e6, isMap_sl, List.getD_cons_zero, bne_self_eq_false, Hp.setObj_obj, if_true, List.length_map]; done) | (simp only [stC, ze, reduceIte, Nat.reduceEqDiff, e5, e6, isMap_sl, List.getD_cons_zero, bne_self_eq_false, Hp.setObj_obj, if_true, List.length_map]; rfl)) rfl rfl fun K' k' => ?_; simp only [zz, reduceIte, Nat.reduceEqDiff, Nat.reduceLT, Nat.reduceLeDiff, Nat.reduceAdd, reduceCtorEq, Nat.reduceMul, ok24, sz24, ag24, e5, e6, isMap_sl, List.getD_cons_zero, bne_self_eq_false, Hp.setObj_obj, if_true, List.length_map]; refine k' _ _ ?_; clear k' K')
        all_goals (refine F.g rfl trivial rfl rfl fun K' k' => ?_; simp only [zz, reduceIte, Nat.reduceEqDiff, Nat.reduceLT, Nat.reduceLeDiff, Nat.reduceAdd, reduceCtorEq, Nat.reduceMul, e5, e6, isMap_sl, List.getD_cons_zero, bne_self_eq_false, Hp.setObj_obj, if_true, List.length_map]; refine hh1.to fun v σx hv => ?_; obtain ⟨rfl, rfl⟩ := hv <;> (refine k' _ _ ?_; clear k' K'))
        all_goals (refine F.g rfl trivial rfl rfl fun K' k' => ?_; simp only [zz, reduceIte, Nat.reduceEqDiff, Nat.reduceLT, Nat.reduceLeDiff, Nat.reduceAdd, reduceCtorEq, Nat.reduceMul, e5, e6, isMap_sl, List.getD_cons_zero, bne_self_eq_false, Hp.setObj_obj, if_true, List.length_map]; refine hh2.to fun v σx hv => ?_; obtain ⟨rfl, rfl⟩ := hv <;> (refine k' _ _ ?_; clear k' K'))
        all_goals (refine F.g rfl trivial rfl rfl fun K' k' => ?_; simp only [zz, reduceIte, Nat.reduceEqDiff, Nat.reduceLT, Nat.reduceLeDiff, Nat.reduceAdd, reduceCtorEq, Nat.reduceMul, un4, e5, e6, isMap_sl, List.getD_cons_zero, bne_self_eq_false, Hp.setObj_obj, if_true, List.length_map]; refine S.bool fun b a53 => ?_; cases b <;> (try (exfalso; first | exact Bool.noConfusion a53 | (have h := of_decide_eq_true a53; omega) | (have h := of_decide_eq_false a53; omega))) <;> (refine k' _ _ ?_; clear k' K'))
        all_goals (refine F.g rfl trivial rfl rfl fun K' k' => ?_; simp only [zz, reduceIte, Nat.reduceEqDiff, Nat.reduceAdd, e5, e6, isMap_sl, List.getD_cons_zero, bne_self_eq_false, Hp.setObj_obj, if_true, List.length_map]; refine k' _ _ ?_; clear k' K')
        all_goals iterate 2 (first | (refine F.y rfl trivial rfl rfl rfl rfl fun K' k' => ?_; simp only [zz, reduceIte, Nat.reduceEqDiff, Nat.reduceAdd, e5, e6, isMap_sl, List.getD_cons_zero, bne_self_eq_false, Hp.setObj_obj, if_true, List.length_map]; refine k' _ _ ?_; clear k' K') | ((first | refine F.x rfl (fun h => by cases h) rfl rfl rfl rfl fun K' k' => ?_ | refine F.u rfl (fun h => by cases h) rfl rfl rfl rfl fun K' k' => ?_); simp only [ze, reduceIte, Nat.reduceEqDiff]; refine k' _ _ ?_; clear k' K'))
        all_goals iterate 2 (first | (refine F.y rfl (by first | rfl | (simp only [stC, ze, reduceIte, Nat.reduceEqDiff, e5, e6, isMap_sl, List.getD_cons_zero, bne_self_eq_false, Hp.setObj_obj, if_true, List.length_map]; done) | (simp only [stC, ze, reduceIte, Nat.reduceEqDiff, e5, e6, isMap_sl, List.getD_cons_zero, bne_self_eq_false, Hp.setObj_obj, if_true, List.length_map]; rfl)) rfl rfl rfl rfl fun K' k' => ?_; simp only [zz, reduceIte, Nat.reduceEqDiff, Nat.reduceLT, Nat.reduceLeDiff, Nat.reduceAdd, reduceCtorEq, Nat.reduceMul, ok24, sz24, ag24, e5, e6, isMap_sl, List.getD_cons_zero, bne_self_eq_false, Hp.setObj_obj, if_true, List.length_map]; refine k' _ _ ?_; clear k' K') | ((first | refine F.x rfl (fun _ => rfl) rfl rfl rfl rfl fun K' k' => ?_ | refine F.u rfl (fun _ => rfl) rfl rfl rfl rfl fun K' k' => ?_); simp only [ze, reduceIte, Nat.reduceEqDiff]; refine k' _ _ ?_; clear k' K'))
        all_goals (first | (refine F.y rfl trivial rfl rfl rfl rfl fun K' k' => ?_; simp only [zz, reduceIte, Nat.reduceEqDiff, Nat.reduceLT, Nat.reduceLeDiff, Nat.reduceAdd, reduceCtorEq, Nat.reduceMul, e5, e6, isMap_sl, List.getD_cons_zero, bne_self_eq_false, Hp.setObj_obj, if_true, List.length_map]; refine hh3.to fun v σy hv => ?_; obtain ⟨rfl, hpsy, hpf⟩ := hv; have hqy := (hpf.obj q (Ne.symm hgq)).trans hsi.r <;> (refine k' _ _ ?_; clear k' K')) | ((first | refine F.x rfl (fun h => by cases h) rfl rfl rfl rfl fun K' k' => ?_ | refine F.u rfl (fun h => by cases h) rfl rfl rfl rfl fun K' k' => ?_); simp only [ze, reduceIte, Nat.reduceEqDiff]; refine k' _ _ ?_; clear k' K'))
        all_goals (first | (refine F.y rfl trivial rfl rfl rfl rfl fun K' k' => ?_; simp only [zz, reduceIte, Nat.reduceEqDiff, Nat.reduceLT, Nat.reduceLeDiff, Nat.reduceAdd, reduceCtorEq, Nat.reduceMul, e5, e6, isMap_sl, List.getD_cons_zero, bne_self_eq_false, Hp.setObj_obj, if_true, List.length_map]; refine (radd_spec q rs x _ hqy hsr hn hll hxk).to fun v σz hv => ?_; obtain ⟨rfl, rfl⟩ := hv; have hpsz := hpsy.obj (q := q) (c := some [.sl ((addL rs x).map encP)]) hgq <;> (refine k' _ _ ?_; clear k' K')) | ((first | refine F.x rfl (fun h => by cases h) rfl rfl rfl rfl fun K' k' => ?_ | refine F.u rfl (fun h => by cases h) rfl rfl rfl rfl fun K' k' => ?_); simp only [ze, reduceIte, Nat.reduceEqDiff]; refine k' _ _ ?_; clear k' K'))
        all_goals (first | (refine F.y rfl trivial rfl rfl rfl rfl fun K' k' => ?_; simp only [zz, reduceIte, Nat.reduceEqDiff, Nat.reduceLT, Nat.reduceLeDiff, Nat.reduceAdd, reduceCtorEq, Nat.reduceMul, un4, e5, e6, isMap_sl, List.getD_cons_zero, bne_self_eq_false, Hp.setObj_obj, if_true, List.length_map]; refine S.bool fun b a61 => ?_; cases b <;> (try (exfalso; first | exact Bool.noConfusion a61 | (have h := of_decide_eq_true a61; omega) | (have h := of_decide_eq_false a61; omega))) <;> (refine k' _ _ ?_; clear k' K')) | ((first | refine F.x rfl (fun h => by cases h) rfl rfl rfl rfl fun K' k' => ?_ | refine F.u rfl (fun h => by cases h) rfl rfl rfl rfl fun K' k' => ?_); simp only [ze, reduceIte, Nat.reduceEqDiff]; refine k' _ _ ?_; clear k' K'))
        all_goals iterate 2 (refine F.g rfl trivial rfl rfl fun K' k' => ?_; simp only [zz, reduceIte, Nat.reduceEqDiff, Nat.reduceAdd, e5, e6, isMap_sl, List.getD_cons_zero, bne_self_eq_false, Hp.setObj_obj, if_true, List.length_map]; refine k' _ _ ?_; clear k' K')
        all_goals iterate 4 (first | (refine F.y rfl trivial rfl rfl rfl rfl fun K' k' => ?_; simp only [zz, reduceIte, Nat.reduceEqDiff, Nat.reduceLT, Nat.reduceLeDiff, Nat.reduceAdd, reduceCtorEq, Nat.reduceMul, of76_0, e5, e6, isMap_sl, List.getD_cons_zero, bne_self_eq_false, Hp.setObj_obj, if_true, List.length_map]; refine k' _ _ ?_; clear k' K') | ((first | refine F.x rfl (fun h => by cases h) rfl rfl rfl rfl fun K' k' => ?_ | refine F.u rfl (fun h => by cases h) rfl rfl rfl rfl fun K' k' => ?_); simp only [ze, reduceIte, Nat.reduceEqDiff]; refine k' _ _ ?_; clear k' K'))
        all_goals (try first | refine F.fork ?_ ?_ | refine F.fork3 ?_ ?_ ?_)
        all_goals first | (first | (refine F.y rfl trivial rfl rfl rfl rfl fun K' k' => ?_; simp only [zz, reduceIte, Nat.reduceEqDiff, Nat.reduceLT, Nat.reduceLeDiff, Nat.reduceAdd, reduceCtorEq, Nat.reduceMul, e5, e6, isMap_sl, List.getD_cons_zero, bne_self_eq_false, Hp.setObj_obj, if_true, List.length_map]; refine (len_spec g (addL rs x) _ hpsz).to fun v σw hv => ?_; obtain ⟨rfl, hw9⟩ := hv; subst hw9 <;> (refine k' _ _ ?_; clear k' K')) | ((first | refine F.x rfl (fun h => by cases h) rfl rfl rfl rfl fun K' k' => ?_ | refine F.u rfl (fun h => by cases h) rfl rfl rfl rfl fun K' k' => ?_); simp only [ze, reduceIte, Nat.reduceEqDiff]; refine k' _ _ ?_; clear k' K')) | (first | (refine F.y rfl trivial rfl rfl rfl rfl fun K' k' => ?_; simp only [zz, reduceIte, Nat.reduceEqDiff, Nat.reduceLT, Nat.reduceLeDiff, Nat.reduceAdd, reduceCtorEq, Nat.reduceMul, ok64, sz64, ag64, e5, e6, isMap_sl, List.getD_cons_zero, bne_self_eq_false, Hp.setObj_obj, if_true, List.length_map]; refine k' _ _ ?_; clear k' K') | ((first | refine F.x rfl (fun h => by cases h) rfl rfl rfl rfl fun K' k' => ?_ | refine F.u rfl (fun h => by cases h) rfl rfl rfl rfl fun K' k' => ?_); simp only [ze, reduceIte, Nat.reduceEqDiff]; refine k' _ _ ?_; clear k' K'))
        all_goals first | (first | (refine F.y rfl trivial rfl rfl rfl rfl fun K' k' => ?_; simp only [zz, reduceIte, Nat.reduceEqDiff, Nat.reduceLT, Nat.reduceLeDiff, Nat.reduceAdd, reduceCtorEq, Nat.reduceMul, ok64, sz64, ag64, e5, e6, isMap_sl, List.getD_cons_zero, bne_self_eq_false, Hp.setObj_obj, if_true, List.length_map]; refine k' _ _ ?_; clear k' K') | ((first | refine F.x rfl (fun h => by cases h) rfl rfl rfl rfl fun K' k' => ?_ | refine F.u rfl (fun h => by cases h) rfl rfl rfl rfl fun K' k' => ?_); simp only [ze, reduceIte, Nat.reduceEqDiff]; refine k' _ _ ?_; clear k' K')) | (first | (refine F.y rfl trivial rfl rfl rfl rfl fun K' k' => ?_; simp only [zz, reduceIte, Nat.reduceEqDiff, Nat.reduceLT, Nat.reduceLeDiff, Nat.reduceAdd, reduceCtorEq, Nat.reduceMul, sl64, el64, ok24, sz24, ag24, e5, e6, isMap_sl, List.getD_cons_zero, bne_self_eq_false, Hp.setObj_obj, if_true, List.length_map]; refine k' _ _ ?_; clear k' K') | ((first | refine F.x rfl (fun h => by cases h) rfl rfl rfl rfl fun K' k' => ?_ | refine F.u rfl (fun h => by cases h) rfl rfl rfl rfl fun K' k' => ?_); simp only [ze, reduceIte, Nat.reduceEqDiff]; refine k' _ _ ?_; clear k' K'))
        all_goals first | (first | (refine F.y rfl trivial rfl rfl rfl rfl fun K' k' => ?_; simp only [zz, reduceIte, Nat.reduceEqDiff, Nat.reduceLT, Nat.reduceLeDiff, Nat.reduceAdd, reduceCtorEq, Nat.reduceMul, e5, e6, isMap_sl, List.getD_cons_zero, bne_self_eq_false, Hp.setObj_obj, if_true, List.length_map]; refine (len_spec g (addL rs x) _ hpsz).to fun v σw hv => ?_; obtain ⟨rfl, hw9⟩ := hv; subst hw9 <;> (refine k' _ _ ?_; clear k' K')) | ((first | refine F.x rfl (fun h => by cases h) rfl rfl rfl rfl fun K' k' => ?_ | refine F.u rfl (fun h => by cases h) rfl rfl rfl rfl fun K' k' => ?_); simp only [ze, reduceIte, Nat.reduceEqDiff]; refine k' _ _ ?_; clear k' K')) | (first | (refine F.y rfl trivial rfl rfl rfl rfl fun K' k' => ?_; simp only [zz, reduceIte, Nat.reduceEqDiff, Nat.reduceLT, Nat.reduceLeDiff, Nat.reduceAdd, reduceCtorEq, Nat.reduceMul, sl64, el64, ok24, sz24, ag24, e5, e6, isMap_sl, List.getD_cons_zero, bne_self_eq_false, Hp.setObj_obj, if_true, List.length_map]; refine k' _ _ ?_; clear k' K') | ((first | refine F.x rfl (fun h => by cases h) rfl rfl rfl rfl fun K' k' => ?_ | refine F.u rfl (fun h => by cases h) rfl rfl rfl rfl fun K' k' => ?_); simp only [ze, reduceIte, Nat.reduceEqDiff]; refine k' _ _ ?_; clear k' K'))
        all_goals (first | (refine F.y rfl trivial rfl rfl rfl rfl fun K' k' => ?_; simp only [zz, reduceIte, Nat.reduceEqDiff, Nat.reduceAdd, e5, e6, isMap_sl, List.getD_cons_zero, bne_self_eq_false, Hp.setObj_obj, if_true, List.length_map]; refine k' _ _ ?_; clear k' K') | ((first | refine F.x rfl (fun h => by cases h) rfl rfl rfl rfl fun K' k' => ?_ | refine F.u rfl (fun h => by cases h) rfl rfl rfl rfl fun K' k' => ?_); simp only [ze, reduceIte, Nat.reduceEqDiff]; refine k' _ _ ?_; clear k' K'))
        all_goals (refine F.g rfl trivial rfl rfl fun K' k' => ?_; simp only [zz, reduceIte, Nat.reduceEqDiff, Nat.reduceAdd, e5, e6, isMap_sl, List.getD_cons_zero, bne_self_eq_false, Hp.setObj_obj, if_true, List.length_map]; refine k' _ _ ?_; clear k' K')
        all_goals refine F.nil ?_
        all_goals simp only [ze, reduceIte, Nat.reduceEqDiff, Nat.reduceLT, Nat.reduceLeDiff, Nat.reduceAdd, reduceCtorEq, Nat.reduceMul, e5, e6, isMap_sl, List.getD_cons_zero, bne_self_eq_false, Hp.setObj_obj, if_true, List.length_map]
        all_goals
          obtain ⟨c1, c2⟩ := hsi.c.over (Ne.symm hgg) hsi.two hpf
          have hsi5 : SI g q g2 (addL rs x) S0 (σy.setObj q (some [.sl ((addL rs x).map encP)])) := ⟨hpsz, by simp, c1.obj (Ne.symm hqg), c2.obj hgq (Ne.symm hqg)⟩
          exact ⟨by simp [kill, e0], by simp [kill, e7], by simp [kill, e41], by simp [kill, e42], by simp [kill, e43], hsi5⟩
      rintro s σ4 ⟨e72, e0, e5, e6, e7, e41, e42, e43, hsi4⟩
      refine AW.cond (b := false) e72 (fun hc => by cases hc) (fun _ => AW.skip ?_)
      all_goals apply_assumption
      all_goals refine AW.reg0 ?_
      all_goals iterate 2 (refine S.g rfl rfl fun K' k' => ?_; simp only [zz, reduceIte, Nat.reduceEqDiff, Nat.reduceAdd, e43, hw]; refine k' _ _ ?_; clear k' K')
      all_goals refine S.nil ?_
      all_goals simp only [ze, reduceIte, Nat.reduceEqDiff, Nat.reduceLT, Nat.reduceLeDiff, Nat.reduceAdd, reduceCtorEq, Nat.reduceMul, e43, hw]
      refine ⟨m - 1, by omega, i + 1, by omega, by omega, ?_⟩
      all_goals simp only [zs, reduceIte, Nat.reduceEqDiff, Nat.reduceLT, Nat.reduceLeDiff, Nat.reduceAdd, reduceCtorEq, Nat.reduceMul, e0, e5, e6, e7, e41, e42, e43]
      rw [hct]
      exact hsi4
    · have hc := of_decide_eq_false hc
      refine AW.exit ?_
      all_goals simp only [zs, reduceIte, Nat.reduceEqDiff, Nat.reduceLT, Nat.reduceLeDiff, Nat.reduceAdd, reduceCtorEq, Nat.reduceMul, e0, e5, e6, e7]
      have : i = r1.length := by omega
      subst this
      rw [List.take_length] at hsi
      exact hsi
  rintro s σ' ⟨e0, e5, e6, e7, hsi⟩
  have hsl := setsLim (i := r1.length) hr hlen hsrt hSk hk1
  obtain ⟨_, _, hmm⟩ := comeL_ind S0 r1 hsrt
  rw [List.take_length] at hsl
  have hrk : ∀ y ∈ comeL S0 r1, okI y := fun y hy => (hmm y hy).elim (hSk y) (hk1 y)
  clear hmm
  generalize comeL S0 r1 = rs at hsi hsl hrk
  obtain ⟨hsr, hn, hll, hn2, hn3⟩ := hsl
  have hlS : ∀ y ∈ S0, y.length < 4611686018427387904 := fun y hy => by have := (hSk y hy).len; omega
  refine AW.seq_j (fun s σ2 => ∃ q2, s.t 5 = .c (.pointer (some ⟨g, 0, none⟩)) ∧ s.t 6 = .c (.pointer (some ⟨q, 0, none⟩)) ∧ s.t 7 = .c (.pointer (some ⟨g2, 0, none⟩)) ∧ s.t 10 = .c (.pointer (some ⟨q2, 0, none⟩)) ∧ SI g q g2 rs S0 σ2 ∧ σ2.obj q2 = some [.sl (S0.map encP)]) ?_ ?_
  · skip
    all_goals refine AW.reg0 ?_
    all_goals (refine S.g rfl rfl fun K' k' => ?_; simp only [zz, reduceIte, Nat.reduceEqDiff, Nat.reduceAdd, e0]; refine k' _ _ ?_; clear k' K')
    all_goals (refine S.g rfl rfl fun K' k' => ?_; simp only [zz, reduceIte, Nat.reduceEqDiff, Nat.reduceLT, Nat.reduceLeDiff, Nat.reduceAdd, reduceCtorEq, Nat.reduceMul, e0]; refine (rnewSet_spec r0 _ hr0 hk0).to fun v σ1x hv => ?_; obtain ⟨q2, rfl, hq2, rfl⟩ := hv; rw [hS0] <;> (refine k' _ _ ?_; clear k' K'))
    all_goals (refine S.g rfl rfl fun K' k' => ?_; simp only [zz, reduceIte, Nat.reduceEqDiff, Nat.reduceAdd, e0]; refine k' _ _ ?_; clear k' K')
    all_goals refine S.nil ?_
    all_goals simp only [ze, reduceIte, Nat.reduceEqDiff, Nat.reduceLT, Nat.reduceLeDiff, Nat.reduceAdd, reduceCtorEq, Nat.reduceMul, e0]
    all_goals simp only [zs, reduceIte, Nat.reduceEqDiff, Nat.reduceLT, Nat.reduceLeDiff, Nat.reduceAdd, reduceCtorEq, Nat.reduceMul, e5, e6, e7]
    have m1 : g ≠ q2 := fun e => by
      obtain ⟨lv, ho⟩ := hsi.s.ex
      rw [e, hq2] at ho; cases ho
    have m2 : g2 ≠ q2 := fun e => by
      obtain ⟨lv, ho⟩ := hsi.c.ex
      rw [e, hq2] at ho; cases ho
    have m3 : q ≠ q2 := fun e => by
      have ho := hsi.r
      rw [e, hq2] at ho; cases ho
    exact ⟨q2, rfl, ⟨hsi.s.obj m1, by simp [m3, hsi.r], hsi.c.obj m2, hsi.two.obj m1 m2⟩, by simp⟩
  clear hsi e0 e5 e6 e7
  rintro s σ2 ⟨q2, e5, e6, e7, e10, hsf, hfq2⟩
  have hfr := hsf.r
  refine AW.seq_k fun K8 h8 => ?_
  all_goals refine AW.drawF (T := { sd := fun _ => false }) (fun _ _ h => by cases h) mixedO (.st 0 0 (.st 2 0 (.st 3 0 (.st 4 0 (.fork 1 (.st 5 2 (.st 6 2 (.st 7 0 (.st 8 0 (.st 10 0 (.st 11 0 (.st 12 0 (.fork 9 (.st 13 2 (.st 14 2 (.st 15 0 (.st 16 0 (.st 17 0 (.st 18 0 (.st 20 0 (.st 21 0 (.st 19 2 (.st 22 2 (.st 23 0 (.st 24 0 (.st 25 0 (.st 26 0 (.st 27 0 (.st 29 0 (.st 30 0 (.st 28 2 (.st 31 2 (.st 32 0 (.st 33 0 (.st 34 0 .nil)))))))))))))))))))))) 13 (.st 9 2 (.st 14 2 (.st 15 0 (.st 16 0 (.st 17 0 (.st 18 0 (.st 20 0 (.st 21 0 (.st 19 2 (.st 22 2 (.st 23 0 (.st 24 0 (.st 25 0 (.st 26 0 (.st 27 0 (.st 29 0 (.st 30 0 (.st 28 2 (.st 31 2 (.st 32 0 (.st 33 0 (.st 34 0 .nil)))))))))))))))))))))))))))))) 5 (.st 1 2 (.st 6 2 (.st 7 0 (.st 8 0 (.st 10 0 (.st 11 0 (.st 12 0 (.fork 9 (.st 13 2 (.st 14 2 (.st 15 0 (.st 16 0 (.st 17 0 (.st 18 0 (.st 20 0 (.st 21 0 (.st 19 2 (.st 22 2 (.st 23 0 (.st 24 0 (.st 25 0 (.st 26 0 (.st 27 0 (.st 29 0 (.st 30 0 (.st 28 2 (.st 31 2 (.st 32 0 (.st 33 0 (.st 34 0 .nil)))))))))))))))))))))) 13 (.st 9 2 (.st 14 2 (.st 15 0 (.st 16 0 (.st 17 0 (.st 18 0 (.st 20 0 (.st 21 0 (.st 19 2 (.st 22 2 (.st 23 0 (.st 24 0 (.st 25 0 (.st 26 0 (.st 27 0 (.st 29 0 (.st 30 0 (.st 28 2 (.st 31 2 (.st 32 0 (.st 33 0 (.st 34 0 .nil))))))))))))))))))))))))))))))))))) rfl (by kernel_rfl) (by kernel_rfl) ?_
  all_goals iterate 4 (refine F.g rfl trivial rfl rfl fun K' k' => ?_; simp only [zz, reduceIte, Nat.reduceEqDiff, Nat.reduceLT, Nat.reduceLeDiff, Nat.reduceAdd, reduceCtorEq, Nat.reduceMul, of76_0, e5, e6, e7, e10, hfr, hfq2, isMap_sl, List.getD_cons_zero, beq_self_eq_true]; refine k' _ _ ?_; clear k' K')
  all_goals (try first | refine F.fork ?_ ?_ | refine F.fork3 ?_ ?_ ?_)
  all_goals first | (refine F.g rfl trivial rfl rfl fun K' k' => ?_; simp only [zz, reduceIte, Nat.reduceEqDiff, Nat.reduceLT, Nat.reduceLeDiff, Nat.reduceAdd, reduceCtorEq, Nat.reduceMul, e5, e6, e7, e10, hfr, hfq2, isMap_sl, List.getD_cons_zero, beq_self_eq_true]; refine (setAll_spec g rs _ hsf.s hn3 hrk).to fun v σx hv => ?_; obtain ⟨rfl, rfl⟩ := hv <;> (refine k' _ _ ?_; clear k' K')) | (refine F.g rfl trivial rfl rfl fun K' k' => ?_; simp only [zz, reduceIte, Nat.reduceEqDiff, Nat.reduceLT, Nat.reduceLeDiff, Nat.reduceAdd, reduceCtorEq, Nat.reduceMul, ok64, sz64, ag64, e5, e6, e7, e10, hfr, hfq2, isMap_sl, List.getD_cons_zero, beq_self_eq_true]; refine k' _ _ ?_; clear k' K')
  all_goals first | (refine F.g rfl trivial rfl rfl fun K' k' => ?_; simp only [zz, reduceIte, Nat.reduceEqDiff, Nat.reduceLT, Nat.reduceLeDiff, Nat.reduceAdd, reduceCtorEq, Nat.reduceMul, e5, e6, e7, e10, hfr, hfq2, isMap_sl, List.getD_cons_zero, beq_self_eq_true]; refine (setAll_spec g rs _ hsf.s hn3 hrk).to fun v σx hv => ?_; obtain ⟨rfl, rfl⟩ := hv <;> (refine k' _ _ ?_; clear k' K')) | (refine F.g rfl trivial rfl rfl fun K' k' => ?_; simp only [zz, reduceIte, Nat.reduceEqDiff, Nat.reduceLT, Nat.reduceLeDiff, Nat.reduceAdd, reduceCtorEq, Nat.reduceMul, ok64, sz64, ag64, e5, e6, e7, e10, hfr, hfq2, isMap_sl, List.getD_cons_zero, beq_self_eq_true]; refine k' _ _ ?_; clear k' K')
  all_goals (refine F.g rfl trivial rfl rfl fun K' k' => ?_; simp only [zz, reduceIte, Nat.reduceEqDiff, Nat.reduceLT, Nat.reduceLeDiff, Nat.reduceAdd, reduceCtorEq, Nat.reduceMul, e5, e6, e7, e10, hfr, hfq2, isMap_sl, List.getD_cons_zero, beq_self_eq_true]; refine PCalls.eqto (told_spec rs hn3 hrk) ?_; refine S.bool fun b a82 => ?_; cases b <;> (try (exfalso; first | exact Bool.noConfusion a82 | (have h := of_decide_eq_true a82; omega) | (have h := of_decide_eq_false a82; omega))) <;> (refine k' _ _ ?_; clear k' K'))
  all_goals (refine F.g rfl trivial rfl rfl fun K' k' => ?_; simp only [zz, reduceIte, Nat.reduceEqDiff, Nat.reduceAdd, e5, e6, e7, e10, hfr, hfq2, isMap_sl, List.getD_cons_zero, beq_self_eq_true]; refine k' _ _ ?_; clear k' K')
  all_goals iterate 4 (first | (refine F.y rfl trivial rfl rfl rfl rfl fun K' k' => ?_; simp only [zz, reduceIte, Nat.reduceEqDiff, Nat.reduceLT, Nat.reduceLeDiff, Nat.reduceAdd, reduceCtorEq, Nat.reduceMul, of76_0, e5, e6, e7, e10, hfr, hfq2, isMap_sl, List.getD_cons_zero, beq_self_eq_true]; refine k' _ _ ?_; clear k' K') | ((first | refine F.x rfl (fun h => by cases h) rfl rfl rfl rfl fun K' k' => ?_ | refine F.u rfl (fun h => by cases h) rfl rfl rfl rfl fun K' k' => ?_); simp only [ze, reduceIte, Nat.reduceEqDiff]; refine k' _ _ ?_; clear k' K'))
  all_goals (try first | refine F.fork ?_ ?_ | refine F.fork3 ?_ ?_ ?_)
  all_goals first | (first | (refine F.y rfl trivial rfl rfl rfl rfl fun K' k' => ?_; simp only [zz, reduceIte, Nat.reduceEqDiff, Nat.reduceLT, Nat.reduceLeDiff, Nat.reduceAdd, reduceCtorEq, Nat.reduceMul, e5, e6, e7, e10, hfr, hfq2, isMap_sl, List.getD_cons_zero, beq_self_eq_true]; refine (setAll_spec g2 S0 _ hsf.c hl0 hSk).to fun v σx hv => ?_; obtain ⟨rfl, rfl⟩ := hv <;> (refine k' _ _ ?_; clear k' K')) | ((first | refine F.x rfl (fun h => by cases h) rfl rfl rfl rfl fun K' k' => ?_ | refine F.u rfl (fun h => by cases h) rfl rfl rfl rfl fun K' k' => ?_); simp only [ze, reduceIte, Nat.reduceEqDiff]; refine k' _ _ ?_; clear k' K')) | (first | (refine F.y rfl trivial rfl rfl rfl rfl fun K' k' => ?_; simp only [zz, reduceIte, Nat.reduceEqDiff, Nat.reduceLT, Nat.reduceLeDiff, Nat.reduceAdd, reduceCtorEq, Nat.reduceMul, ok64, sz64, ag64, e5, e6, e7, e10, hfr, hfq2, isMap_sl, List.getD_cons_zero, beq_self_eq_true]; refine k' _ _ ?_; clear k' K') | ((first | refine F.x rfl (fun h => by cases h) rfl rfl rfl rfl fun K' k' => ?_ | refine F.u rfl (fun h => by cases h) rfl rfl rfl rfl fun K' k' => ?_); simp only [ze, reduceIte, Nat.reduceEqDiff]; refine k' _ _ ?_; clear k' K'))
  all_goals first | (first | (refine F.y rfl trivial rfl rfl rfl rfl fun K' k' => ?_; simp only [zz, reduceIte, Nat.reduceEqDiff, Nat.reduceLT, Nat.reduceLeDiff, Nat.reduceAdd, reduceCtorEq, Nat.reduceMul, e5, e6, e7, e10, hfr, hfq2, isMap_sl, List.getD_cons_zero, beq_self_eq_true]; refine (setAll_spec g2 S0 _ hsf.c hl0 hSk).to fun v σx hv => ?_; obtain ⟨rfl, rfl⟩ := hv <;> (refine k' _ _ ?_; clear k' K')) | ((first | refine F.x rfl (fun h => by cases h) rfl rfl rfl rfl fun K' k' => ?_ | refine F.u rfl (fun h => by cases h) rfl rfl rfl rfl fun K' k' => ?_); simp only [ze, reduceIte, Nat.reduceEqDiff]; refine k' _ _ ?_; clear k' K')) | (first | (refine F.y rfl trivial rfl rfl rfl rfl fun K' k' => ?_; simp only [zz, reduceIte, Nat.reduceEqDiff, Nat.reduceLT, Nat.reduceLeDiff, Nat.reduceAdd, reduceCtorEq, Nat.reduceMul, ok64, sz64, ag64, e5, e6, e7, e10, hfr, hfq2, isMap_sl, List.getD_cons_zero, beq_self_eq_true]; refine k' _ _ ?_; clear k' K') | ((first | refine F.x rfl (fun h => by cases h) rfl rfl rfl rfl fun K' k' => ?_ | refine F.u rfl (fun h => by cases h) rfl rfl rfl rfl fun K' k' => ?_); simp only [ze, reduceIte, Nat.reduceEqDiff]; refine k' _ _ ?_; clear k' K'))
  all_goals (first | (refine F.y rfl trivial rfl rfl rfl rfl fun K' k' => ?_; simp only [zz, reduceIte, Nat.reduceEqDiff, Nat.reduceLT, Nat.reduceLeDiff, Nat.reduceAdd, reduceCtorEq, Nat.reduceMul, e5, e6, e7, e10, hfr, hfq2, isMap_sl, List.getD_cons_zero, beq_self_eq_true]; refine PCalls.eqto (told_spec S0 hl0 hSk) ?_; refine S.bool fun b a90 => ?_; cases b <;> (try (exfalso; first | exact Bool.noConfusion a90 | (have h := of_decide_eq_true a90; omega) | (have h := of_decide_eq_false a90; omega))) <;> (refine k' _ _ ?_; clear k' K')) | ((first | refine F.x rfl (fun h => by cases h) rfl rfl rfl rfl fun K' k' => ?_ | refine F.u rfl (fun h => by cases h) rfl rfl rfl rfl fun K' k' => ?_); simp only [ze, reduceIte, Nat.reduceEqDiff]; refine k' _ _ ?_; clear k' K'))
  all_goals iterate 2 (refine F.g rfl trivial rfl rfl fun K' k' => ?_; simp only [zz, reduceIte, Nat.reduceEqDiff, Nat.reduceAdd, e5, e6, e7, e10, hfr, hfq2, isMap_sl, List.getD_cons_zero, beq_self_eq_true]; refine k' _ _ ?_; clear k' K')
  all_goals iterate 4 (first | (refine F.y rfl trivial rfl rfl rfl rfl fun K' k' => ?_; simp only [zz, reduceIte, Nat.reduceEqDiff, Nat.reduceAdd, e5, e6, e7, e10, hfr, hfq2, isMap_sl, List.getD_cons_zero, beq_self_eq_true]; refine k' _ _ ?_; clear k' K') | ((first | refine F.x rfl (fun h => by cases h) rfl rfl rfl rfl fun K' k' => ?_ | refine F.u rfl (fun h => by cases h) rfl rfl rfl rfl fun K' k' => ?_); simp only [ze, reduceIte, Nat.reduceEqDiff]; refine k' _ _ ?_; clear k' K'))
  all_goals (first | (refine F.y rfl trivial rfl rfl rfl rfl fun K' k' => ?_; simp only [zz, reduceIte, Nat.reduceEqDiff, Nat.reduceLT, Nat.reduceLeDiff, Nat.reduceAdd, reduceCtorEq, Nat.reduceMul, e5, e6, e7, e10, hfr, hfq2, isMap_sl, List.getD_cons_zero, beq_self_eq_true]; refine (same_spec g g2 rs S0 _ hsf.s hsf.c hsrt hn3 hl0 hrk hSk).to fun v σx hv => ?_; obtain ⟨rfl, rfl⟩ := hv <;> (refine k' _ _ ?_; clear k' K')) | ((first | refine F.x rfl (fun h => by cases h) rfl rfl rfl rfl fun K' k' => ?_ | refine F.u rfl (fun h => by cases h) rfl rfl rfl rfl fun K' k' => ?_); simp only [ze, reduceIte, Nat.reduceEqDiff]; refine k' _ _ ?_; clear k' K'))
  all_goals (first | (refine F.y rfl trivial rfl rfl rfl rfl fun K' k' => ?_; simp only [zz, reduceIte, Nat.reduceEqDiff, Nat.reduceLT, Nat.reduceLeDiff, Nat.reduceAdd, reduceCtorEq, Nat.reduceMul, e5, e6, e7, e10, hfr, hfq2, isMap_sl, List.getD_cons_zero, beq_self_eq_true]; refine (rsame_spec q q2 rs S0 _ hsf.r hfq2 hn3 hl0 hlS).to fun v σx hv => ?_; obtain ⟨rfl, rfl⟩ := hv <;> (refine k' _ _ ?_; clear k' K')) | ((first | refine F.x rfl (fun h => by cases h) rfl rfl rfl rfl fun K' k' => ?_ | refine F.u rfl (fun h => by cases h) rfl rfl rfl rfl fun K' k' => ?_); simp only [ze, reduceIte, Nat.reduceEqDiff]; refine k' _ _ ?_; clear k' K'))
  all_goals (first | (refine F.y rfl trivial rfl rfl rfl rfl fun K' k' => ?_; simp only [zz, reduceIte, Nat.reduceEqDiff, Nat.reduceLT, Nat.reduceLeDiff, Nat.reduceAdd, reduceCtorEq, Nat.reduceMul, un4, e5, e6, e7, e10, hfr, hfq2, isMap_sl, List.getD_cons_zero, beq_self_eq_true]; refine S.bool fun b a99 => ?_; cases b <;> (try (exfalso; first | exact Bool.noConfusion a99 | (have h := of_decide_eq_true a99; omega) | (have h := of_decide_eq_false a99; omega))) <;> (refine k' _ _ ?_; clear k' K')) | ((first | refine F.x rfl (fun h => by cases h) rfl rfl rfl rfl fun K' k' => ?_ | refine F.u rfl (fun h => by cases h) rfl rfl rfl rfl fun K' k' => ?_); simp only [ze, reduceIte, Nat.reduceEqDiff]; refine k' _ _ ?_; clear k' K'))
  all_goals iterate 2 (refine F.g rfl trivial rfl rfl fun K' k' => ?_; simp only [zz, reduceIte, Nat.reduceEqDiff, Nat.reduceAdd, e5, e6, e7, e10, hfr, hfq2, isMap_sl, List.getD_cons_zero, beq_self_eq_true]; refine k' _ _ ?_; clear k' K')
  all_goals iterate 4 (first | (refine F.y rfl trivial rfl rfl rfl rfl fun K' k' => ?_; simp only [zz, reduceIte, Nat.reduceEqDiff, Nat.reduceAdd, e5, e6, e7, e10, hfr, hfq2, isMap_sl, List.getD_cons_zero, beq_self_eq_true]; refine k' _ _ ?_; clear k' K') | ((first | refine F.x rfl (fun h => by cases h) rfl rfl rfl rfl fun K' k' => ?_ | refine F.u rfl (fun h => by cases h) rfl rfl rfl rfl fun K' k' => ?_); simp only [ze, reduceIte, Nat.reduceEqDiff]; refine k' _ _ ?_; clear k' K'))
  all_goals (first | (refine F.y rfl trivial rfl rfl rfl rfl fun K' k' => ?_; simp only [zz, reduceIte, Nat.reduceEqDiff, Nat.reduceLT, Nat.reduceLeDiff, Nat.reduceAdd, reduceCtorEq, Nat.reduceMul, e5, e6, e7, e10, hfr, hfq2, isMap_sl, List.getD_cons_zero, beq_self_eq_true]; refine (same_spec g2 g S0 rs _ hsf.c hsf.s hsr hl0 hn3 hSk hrk).to fun v σx hv => ?_; obtain ⟨rfl, rfl⟩ := hv <;> (refine k' _ _ ?_; clear k' K')) | ((first | refine F.x rfl (fun h => by cases h) rfl rfl rfl rfl fun K' k' => ?_ | refine F.u rfl (fun h => by cases h) rfl rfl rfl rfl fun K' k' => ?_); simp only [ze, reduceIte, Nat.reduceEqDiff]; refine k' _ _ ?_; clear k' K'))
  all_goals (first | (refine F.y rfl trivial rfl rfl rfl rfl fun K' k' => ?_; simp only [zz, reduceIte, Nat.reduceEqDiff, Nat.reduceLT, Nat.reduceLeDiff, Nat.reduceAdd, reduceCtorEq, Nat.reduceMul, e5, e6, e7, e10, hfr, hfq2, isMap_sl, List.getD_cons_zero, beq_self_eq_true]; refine (rsame_spec q2 q S0 rs _ hfq2 hsf.r hl0 hn3 hll).to fun v σx hv => ?_; obtain ⟨rfl, rfl⟩ := hv <;> (refine k' _ _ ?_; clear k' K')) | ((first | refine F.x rfl (fun h => by cases h) rfl rfl rfl rfl fun K' k' => ?_ | refine F.u rfl (fun h => by cases h) rfl rfl rfl rfl fun K' k' => ?_); simp only [ze, reduceIte, Nat.reduceEqDiff]; refine k' _ _ ?_; clear k' K'))
  all_goals (first | (refine F.y rfl trivial rfl rfl rfl rfl fun K' k' => ?_; simp only [zz, reduceIte, Nat.reduceEqDiff, Nat.reduceAdd, un4, e5, e6, e7, e10, hfr, hfq2, isMap_sl, List.getD_cons_zero, beq_self_eq_true]; refine k' _ _ ?_; clear k' K') | ((first | refine F.x rfl (fun h => by cases h) rfl rfl rfl rfl fun K' k' => ?_ | refine F.u rfl (fun h => by cases h) rfl rfl rfl rfl fun K' k' => ?_); simp only [ze, reduceIte, Nat.reduceEqDiff]; refine k' _ _ ?_; clear k' K'))
  all_goals iterate 2 (refine F.g rfl trivial rfl rfl fun K' k' => ?_; simp only [zz, reduceIte, Nat.reduceEqDiff, Nat.reduceAdd, e5, e6, e7, e10, hfr, hfq2, isMap_sl, List.getD_cons_zero, beq_self_eq_true]; refine k' _ _ ?_; clear k' K')
  all_goals refine F.nil ?_
  all_goals simp only [ze, reduceIte, Nat.reduceEqDiff, Nat.reduceLT, Nat.reduceLeDiff, Nat.reduceAdd, reduceCtorEq, Nat.reduceMul, e5, e6, e7, e10, hfr, hfq2, isMap_sl, List.getD_cons_zero, beq_self_eq_true]
  all_goals apply_assumption
  all_goals refine AW.ret ?_
  all_goals simp only [zs, reduceIte, Nat.reduceEqDiff, Nat.reduceLT, Nat.reduceLeDiff, Nat.reduceAdd, reduceCtorEq, Nat.reduceMul]
end Go.Abs.M
namespace Go.Abs.M
open Go Go.Abs Go.Proofs
set_option linter.unusedSimpArgs false
set_option linter.unusedVariables false
set_option maxRecDepth 20000
theorem bulk_le {H : Type} : ∀ {d : DataW H} {l : List (DataW H)}, d ∈ l → Ytmhamgllanihoaa.Rows.uptoBulk d ≤ Ytmhamgllanihoaa.Rows.uptoBulkAll l
  | d, x :: r, h => by
    simp only [Ytmhamgllanihoaa.Rows.uptoBulkAll]
    rcases List.mem_cons.1 h with e | e
    · subst e; omega
    · have := bulk_le e; omega
theorem bulk_one {H : Type} (d : DataW H) : 1 ≤ Ytmhamgllanihoaa.Rows.uptoBulk d := by
  cases d with
  | lit l => cases l <;> simp [Ytmhamgllanihoaa.Rows.uptoBulk]
  | nil => simp [Ytmhamgllanihoaa.Rows.uptoBulk]
  | ptr d => simp [Ytmhamgllanihoaa.Rows.uptoBulk]
  | slice elems spare => simp [Ytmhamgllanihoaa.Rows.uptoBulk]
  | agg parts => simp [Ytmhamgllanihoaa.Rows.uptoBulk]
  | iface t d => simp [Ytmhamgllanihoaa.Rows.uptoBulk]
  | map entries => simp [Ytmhamgllanihoaa.Rows.uptoBulk]
  | held h => simp [Ytmhamgllanihoaa.Rows.uptoBulk]
theorem bulk_len {H : Type} : ∀ l : List (DataW H), l.length ≤ Ytmhamgllanihoaa.Rows.uptoBulkAll l
  | [] => by simp [Ytmhamgllanihoaa.Rows.uptoBulkAll]
  | d :: l => by
    have := bulk_one d
    have := bulk_len l
    simp only [Ytmhamgllanihoaa.Rows.uptoBulkAll, List.length_cons]; omega
/-- Rows of a small argument. -/
theorem parts_short {H : Type} {enc : TypeId × Value → H} {W : World} {base : Nat} {v : Value} {d : DataW H} {ps : List MemPlace} {l : List (List Bd)} (hval : Value.okWide Try.prog W .any base 64 v)
    (h : DataW.Trod enc Try.prog W 0 (fun _ => true) true 64 v d ps) (hv : VR W (cx0 W) (.sl (l.map encP)) v) : l.length ≤ Ytmhamgllanihoaa.Rows.uptoBulk d := by
  obtain ⟨fuel, hf⟩ := h
  have hc : v.cells.toList = [v] := by
    have := flat_of (.inr (.inr ⟨_, Try.underlying64⟩)) hval
    cases v <;> first | rfl | exact absurd rfl (this _)
  rw [hc] at hf
  rcases Go.Deep.open_slice1 Try.underlying64 co24 hf with ⟨h1, h2⟩ | ⟨a, len, cap, m, n, V', D, Pl, h1, _, _, _, _, h2, _⟩
  · injection h1 with h1
    subst h1
    generalize he : l.map encP = es at hv
    have hlen : l.length = es.length := by rw [← he]; simp
    cases hv with
    | nils => simp [hlen]
  · injection h1 with h1
    subst h1
    have hl : l.length ≤ len := by
      generalize he : l.map encP = es at hv
      have hlen : l.length = es.length := by rw [← he]; simp
      cases hv with
      | nile => simp [hlen]
      | sl f => omega
    have h3 : d = .slice ((List.range len).map D) ((List.range (m - len)).map fun j => D (len + j)) := congrArg Prod.fst h2
    have h4 := bulk_len ((List.range len).map D)
    simp only [List.length_map, List.length_range] at h4
    rw [h3]
    simp only [Ytmhamgllanihoaa.Rows.uptoBulk]
    omega
theorem law_sets (a b : List (List Bd)) (h0 : a.length ≤ 1048576) (h1 : b.length ≤ 1048576) (ha : (∀ x ∈ a, okT x) ∧ a.length * 24 ≤ reachBytes) (hb : (∀ x ∈ b, okT x) ∧ b.length * 24 ≤ reachBytes) :
    PCalls Try.prog 8 [.sl (a.map encP), .sl (b.map encP)] (fun v => v = .c (.bool true)) :=
  (sets_spec a b (by omega) (fun x hx => (ha.1 x hx).i) (fun x hx => (hb.1 x hx).i)).bare fun v _ h => h
end Go.Abs.M
