import Derived.Test.YtkijhgplmikboaaGreatNld
import Derived.Test.YtkijhgplmikboaaGreatRows
set_option linter.all false
set_option maxHeartbeats 4000000
namespace Go.Abs.M
open Go Go.Abs Go.Proofs
variable [Mode]
set_option maxRecDepth 20000
structure okQ (p : List Bd) : Prop where
  len : p.length ≤ 12
  ok : okP p
  few : ∀ b ∈ p, b.ev.attrs.length ≤ 8
  time : ∀ b ∈ p, inI64 b.ev.time
theorem okQ.toL {p : List Bd} (h : okQ p) : okL p := ⟨by have := h.len; omega, fun b hb => by have := h.few b hb; omega⟩
theorem mg_okQ {p q m : List Bd} (hp : okQ p) (hq : okQ q) (hm : mg p q = some m) : okQ m := by
 obtain ⟨_, h1, _, _, h2⟩ := ofB_mrg hm []
 have hin : ∀ b ∈ m, b ∈ p ∨ b ∈ q := fun b hb => List.mem_append.1 (h2.subset hb)
 exact ⟨((part_iff m).1 h1).1, fun b hb => (hin b hb).elim (hp.ok b) (hq.ok b), fun b hb => (hin b hb).elim (hp.few b) (hq.few b), fun b hb => (hin b hb).elim (hp.time b) (hq.time b)⟩
def rowR (two : Bool) (p : List Bd) (out : List (List Bd)) : List (List Bd) → List (List Bd)
  | [] => out
  | q :: b => if late two p q then rowR two p out b else match mg p q with | some m => rowR two p (putP out m) b | none => rowR two p out b
def joinR (two : Bool) (b : List (List Bd)) (out : List (List Bd)) : List (List Bd) → List (List Bd)
  | [] => out
  | p :: a => if 4096 < (rowR two p out b).length then rowR two p out b else joinR two b (rowR two p out b) a
def SlP (l : List (List Bd)) (v : V) : Prop := v = .sl (l.map encP) ∨ (v = .c (.slice none 0 0) ∧ l = [])
theorem putP_len (l : List (List Bd)) (p : List Bd) : (putP l p).length ≤ l.length + 1 := by
 have := idxP_le l p l.length
 unfold putP
 split
 ·omega
 ·simp; omega
theorem putP_okQ {l : List (List Bd)} {p : List Bd} (hl : ∀ x ∈ l, okQ x) (hp : okQ p) : ∀ x ∈ putP l p, okQ x := by
 unfold putP
 split
 ·exact hl
 ·intro x hx
  rcases List.mem_append.1 hx with h | h
  ·exact hl x (List.mem_of_mem_take h)
  ·rcases List.mem_cons.1 h with rfl | h
   ·exact hp
   ·exact hl x (List.mem_of_mem_drop h)
theorem merge_mg {a b : List Bd} : rmergeV a b = optV (mg a b) := mergeV_eq a b
theorem rjoined_spec (kind : Int) (a b : List (List Bd)) (ha : a.length ≤ 4096) (hb : b.length ≤ 4096) (qa : ∀ p ∈ a, okQ p) (qb : ∀ p ∈ b, okQ p) : PCalls Tryz.prog 80 [.c (.int .i64 kind), .sl (a.map encP), .sl (b.map encP)] (fun v => v = .sl ((joinR (decide (kind = 2)) b [] a).map encP)) := by
  refine PCalls.intro Tryz.call80 Tryz.func80 rfl Tryz.ntmps80 Tryz.results80 (by simp) ?_
  refine AW.sr trivial ?_
  refine AW.sr trivial ?_
  refine AW.seq_k fun K3 h3 => ?_
  refine AW.sr trivial ?_
  refine AW.block ?_   -- 0
  refine AW.loop (fun m s σ => σ = Hp.empty ∧ ∃ (i : Nat) (out : List (List Bd)), m + i = a.length ∧ out.length ≤ 4096 ∧ (∀ p ∈ out, okQ p) ∧ joinR (decide (kind = 2)) b [] a = joinR (decide (kind = 2)) b out (a.drop i) ∧ s.t 0 = .c (.int .i64 kind) ∧ s.t 1 = .sl (a.map encP) ∧ s.t 2 = .sl (b.map encP) ∧ SlP out (s.t 7) ∧ s.t 8 = .c (.int .i64 (i : Nat))) a.length ?_ ?_
  · refine ⟨rfl, 0, [], by simp, by simp, by simp, by simp, ?_⟩
    simp only [zs, simprocAttr]
    all_goals ((try and_intros) <;> first | rfl | assumption | (exact .inr ⟨rfl, rfl⟩))
  rintro m s σ ⟨rfl, i, out, hm, hlen, hok, hp, e0, e1, e2, e7, e8⟩
  refine AW.seq_k fun K5 h5 => ?_
  all_goals refine AW.sr (J3 e1 e8 @List.length_map.{0,0}) ?_
  refine AW.cd (decide (i < a.length)) (fun hi => ?_) (fun hi => ?_)
  · have hi := of_decide_eq_true hi
    obtain ⟨p, hx, hpm, hg, hd, _⟩ := part_get hi
    have hpq := qa p hpm
    have hpl := hpq.len
    have hw := wadd1 (a := i) (by omega)
    rw [hd, joinR] at hp
    refine AW.skip ?_
    simp only [zs, simprocAttr]
    all_goals apply_assumption
    refine AW.seq_k fun K7 h7 => ?_
    refine AW.block ?_   -- 1
    refine AW.seq_j (fun s' σ' => σ' = Hp.empty ∧ s'.t 0 = .c (.int .i64 kind) ∧ s'.t 1 = .sl (a.map encP) ∧ s'.t 2 = .sl (b.map encP) ∧ SlP (rowR (decide (kind = 2)) p out b) (s'.t 7) ∧ s'.t 8 = .c (.int .i64 (i : Nat)) ∧ (rowR (decide (kind = 2)) p out b).length ≤ 8192 ∧ ∀ x ∈ rowR (decide (kind = 2)) p out b, okQ x) ?_ ?_
    · have q1q := J4 e0 e1 e2 e8
      refine AW.sr q1q ?_
      refine AW.block ?_   -- 2
      refine AW.loop (fun m2 s σ => σ = Hp.empty ∧ ∃ (j : Nat) (out' : List (List Bd)), m2 + j = b.length ∧ out'.length ≤ 4096 + j ∧ (∀ p ∈ out', okQ p) ∧ rowR (decide (kind = 2)) p out b = rowR (decide (kind = 2)) p out' (b.drop j) ∧ s.t 0 = .c (.int .i64 kind) ∧ s.t 1 = .sl (a.map encP) ∧ s.t 2 = .sl (b.map encP) ∧ SlP out' (s.t 7) ∧ s.t 8 = .c (.int .i64 (i : Nat)) ∧ s.t 9 = .c (.int .i64 (j : Nat))) b.length ?_ ?_
      · refine ⟨rfl, 0, out, by simp, by omega, hok, rfl, ?_⟩
        simp only [zs, simprocAttr, e0, e1, e2, e8]
        all_goals ((try and_intros) <;> first | rfl | assumption | (exact e7))
      rintro m2 s σ ⟨rfl, j, out', hm2, hlen', hok', hq, e0, e1, e2, e7, e8, e9⟩
      refine AW.seq_k fun K9 h9 => ?_
      all_goals refine AW.sr (J3 e2 e9 @List.length_map.{0,0}) ?_
      refine AW.cd (decide (j < b.length)) (fun hj => ?_) (fun hj => ?_)
      · have hj := of_decide_eq_true hj
        obtain ⟨q, hy, hqm, hgq, hdq, _⟩ := part_get hj
        have hqq := qb q hqm
        have hql := hqq.len
        have hwj := wadd1 (a := j) (by omega)
        rw [hdq, rowR] at hq
        refine AW.skip ?_
        simp only [zs, simprocAttr]
        all_goals apply_assumption
        refine AW.seq_j (fun s' σ' => σ' = Hp.empty ∧ ∃ out2 : List (List Bd), out2.length ≤ 4096 + j + 1 ∧ (∀ p ∈ out2, okQ p) ∧ rowR (decide (kind = 2)) p out b = rowR (decide (kind = 2)) p out2 (b.drop (j + 1)) ∧ s'.t 0 = .c (.int .i64 kind) ∧ s'.t 1 = .sl (a.map encP) ∧ s'.t 2 = .sl (b.map encP) ∧ SlP out2 (s'.t 7) ∧ s'.t 8 = .c (.int .i64 (i : Nat)) ∧ s'.t 9 = .c (.int .i64 (j : Nat))) ?_ ?_
        · refine AW.block ?_   -- 3
          refine AW.seq_k fun K11 h11 => ?_
          refine AW.seq_j (fun s' σ' => σ' = Hp.empty ∧ s'.t 0 = .c (.int .i64 kind) ∧ s'.t 1 = .sl (a.map encP) ∧ s'.t 2 = .sl (b.map encP) ∧ s'.t 7 = s.t 7 ∧ s'.t 8 = .c (.int .i64 (i : Nat)) ∧ s'.t 9 = .c (.int .i64 (j : Nat)) ∧ s'.t 38 = .c (.bool (late (decide (kind = 2)) p q))) ?_ ?_
          · skip
            refine AW.dw [(0,0),(1,0),(2,0),(3,0),(4,0),(5,0),(8,0),(9,0),(10,0),(6,1),(11,1),(7,2),(12,2),(13,0),(14,0)] ?_
            have q2q := J11 e0 e1 e2 e8 e9 hi hj hg hgq @encP.eq_1 @List.length_map.{0,0}
            refine D.one q2q ?_
            (refine D.sp q2q fun b a25 => ?_; cases b <;> (try exact nope a25))
            all_goals iterate 7 refine D.one q2q ?_
            all_goals iterate 2 refine D.one q2q ?_
            all_goals (first | (refine D.y rfl trivial rfl rfl rfl rfl fun Y Z => ?_; simp only [zz, simprocAttr, -Int.reduceNatCast', -Int.reduceToNat, e0, e1, e2, e8, e9, hi, hj, hg, hgq, encP, List.length_map]; refine PCalls.eqto (rbegin_spec _ (by omega)) ?_ <;> (refine Z _ _ ?_; clear Z Y)) | ((first | refine D.x rfl (fun h => by cases h) rfl rfl rfl rfl fun Y Z => ?_ | refine D.u rfl (fun h => by cases h) rfl rfl rfl rfl fun Y Z => ?_); simp only [ze, simprocAttr, -Int.reduceNatCast', -Int.reduceToNat]; refine Z _ _ ?_; clear Z Y))
            all_goals have q3q := J11 e0 e1 e2 e8 e9 hi hj hg hgq @encP.eq_1 @List.length_map.{0,0}
            all_goals (first | (refine D.y rfl trivial rfl rfl rfl rfl fun Y Z => ?_; simp only [zz, simprocAttr, -Int.reduceNatCast', -Int.reduceToNat, q3q]; refine PCalls.eqto (rend_spec _ (by omega)) ?_ <;> (refine Z _ _ ?_; clear Z Y)) | ((first | refine D.x rfl (fun h => by cases h) rfl rfl rfl rfl fun Y Z => ?_ | refine D.u rfl (fun h => by cases h) rfl rfl rfl rfl fun Y Z => ?_); simp only [ze, simprocAttr, -Int.reduceNatCast', -Int.reduceToNat]; refine Z _ _ ?_; clear Z Y))
            all_goals iterate 2 refine D.one q3q ?_
            all_goals refine D.nil ?_
            all_goals simp only [ze, simprocAttr, q3q]
            all_goals simp_all [late]
          rintro s2 σ ⟨rfl, e0, e1, e2, e7', e8, e9, e38⟩
          rw [← e7'] at e7
          refine AW.cond (b := late (decide (kind = 2)) p q) e38 (fun hc => ?_) (fun hc => ?_)
          · rw [hc, if_pos rfl] at hq
            refine AW.exit ?_
            simp only [zs, simprocAttr]
            refine ⟨out', by omega, hok', hq, ?_⟩
            all_goals ((try and_intros) <;> first | rfl | assumption | (exact e7))
          rw [hc, if_neg Bool.false_ne_true] at hq
          refine AW.skip ?_
          all_goals simp only [zs, simprocAttr]
          all_goals apply_assumption
          have hmerge : PCalls Tryz.prog 112 [.agg [.sl (p.map encBd)], .agg [.sl (q.map encBd)]] (fun v => v = optV (mg p q)) := by
            rw [← merge_mg]
            exact rmerge_spec p q hpq.ok hqq.ok (fun x hx => by
              have : x.ev.attrs.length ≤ 8 := (List.mem_append.1 hx).elim (hpq.few x) (hqq.few x)
              omega)
          have hk7 : kill 10 (s2.t 7) = s2.t 7 := by rcases e7 with h | ⟨h, _⟩ <;> rw [h] <;> rfl
          cases hmq : mg p q with
          | none =>
            rw [hmq] at hmerge hq
            simp only [optV, noPart] at hmerge
            refine AW.seq_j (fun s' σ' => σ' = Hp.empty ∧ s'.t 0 = .c (.int .i64 kind) ∧ s'.t 1 = .sl (a.map encP) ∧ s'.t 2 = .sl (b.map encP) ∧ s'.t 7 = s2.t 7 ∧ s'.t 8 = .c (.int .i64 (i : Nat)) ∧ s'.t 9 = .c (.int .i64 (j : Nat)) ∧ s'.t 11 = .c (.bool false)) ?_ ?_
            · skip
              refine AW.dT { sd := fun _ => false } (.st 0 0 (.st 1 0 (.st 2 0 (.st 4 0 (.st 5 0 (.st 6 0 (.st 3 1 (.st 7 1 (.fork 8 (.st 9 0 (.st 10 0 (.st 11 0 (.st 12 2 (.st 13 2 (.st 14 0 .nil)))))) 12 (.st 8 2 (.st 9 0 (.st 10 0 (.st 11 0 (.st 13 2 (.st 14 0 .nil))))))))))))))) ?_
              all_goals have q4q := J11 e0 e1 e2 e8 e9 hi hj hg hgq @encP.eq_1 @List.length_map.{0,0}
              all_goals iterate 6 refine T.one q4q ?_
              all_goals iterate 2 refine T.one q4q ?_
              all_goals (try refine T.fork ?_ ?_)
              all_goals have q5q := J11 e0 e1 e2 e8 e9 hi hj hg hgq @encP.eq_1 @List.length_map.{0,0}
              all_goals first | (refine T.cl q5q hmerge ?_) | (refine T.g rfl trivial rfl rfl fun Y Z => ?_; simp only [zz, simprocAttr, -Int.reduceNatCast', -Int.reduceToNat, tt, q5q]; refine Z _ _ ?_; clear Z Y)
              all_goals have q6q := J11 e0 e1 e2 e8 e9 hi hj hg hgq @encP.eq_1 @List.length_map.{0,0}
              all_goals first | (refine T.cl q6q hmerge ?_) | (refine T.g rfl trivial rfl rfl fun Y Z => ?_; simp only [zz, simprocAttr, -Int.reduceNatCast', -Int.reduceToNat, q6q]; refine Z _ _ ?_; clear Z Y)
              all_goals iterate 2 refine T.one q6q ?_
              all_goals have q7q := J11 e0 e1 e2 e8 e9 hi hj hg hgq @encP.eq_1 @List.length_map.{0,0}
              all_goals first | (refine T.g rfl trivial rfl rfl fun Y Z => ?_; simp only [zz, simprocAttr, -Int.reduceNatCast', -Int.reduceToNat, tt, q7q]; refine Z _ _ ?_; clear Z Y) | (refine T.g rfl trivial rfl rfl fun Y Z => ?_; simp only [zz, simprocAttr, -Int.reduceNatCast', -Int.reduceToNat, q7q]; refine Z _ _ ?_; clear Z Y)
              all_goals iterate 2 refine T.one q7q ?_
              all_goals refine T.nil ?_
              all_goals simp only [ze, simprocAttr, q7q]
              all_goals ((try and_intros) <;> first | rfl | assumption | (exact hk7))
            rintro s3 σ ⟨rfl, e0, e1, e2, e7', e8, e9, e11⟩
            rw [← e7'] at e7
            all_goals refine AW.sr e11 ?_
            refine AW.cd false (fun h => by cases h) (fun _ => ?_)
            refine AW.skip ?_
            all_goals simp only [zs, simprocAttr]
            refine ⟨out', by omega, hok', hq, ?_⟩
            all_goals ((try and_intros) <;> first | rfl | assumption | (exact e7))
          | some m =>
            rw [hmq] at hmerge hq
            simp only [optV] at hmerge
            refine AW.seq_j (fun s' σ' => σ' = Hp.empty ∧ s'.t 0 = .c (.int .i64 kind) ∧ s'.t 1 = .sl (a.map encP) ∧ s'.t 2 = .sl (b.map encP) ∧ s'.t 7 = s2.t 7 ∧ s'.t 8 = .c (.int .i64 (i : Nat)) ∧ s'.t 9 = .c (.int .i64 (j : Nat)) ∧ s'.t 11 = .c (.bool true) ∧ s'.t 10 = .lp 10 0 ∧ s'.l 10 = some [.sl (m.map encBd)]) ?_ ?_
            · skip
              refine AW.dT { sd := fun _ => false } (.st 0 0 (.st 1 0 (.st 2 0 (.st 4 0 (.st 5 0 (.st 6 0 (.st 3 1 (.st 7 1 (.fork 8 (.st 9 0 (.st 10 0 (.st 11 0 (.st 12 2 (.st 13 2 (.st 14 0 .nil)))))) 12 (.st 8 2 (.st 9 0 (.st 10 0 (.st 11 0 (.st 13 2 (.st 14 0 .nil))))))))))))))) ?_
              all_goals have q8q := J11 e0 e1 e2 e8 e9 hi hj hg hgq @encP.eq_1 @List.length_map.{0,0}
              all_goals iterate 6 refine T.one q8q ?_
              all_goals iterate 2 refine T.one q8q ?_
              all_goals (try refine T.fork ?_ ?_)
              all_goals have q9q := J11 e0 e1 e2 e8 e9 hi hj hg hgq @encP.eq_1 @List.length_map.{0,0}
              all_goals first | (refine T.cl q9q hmerge ?_) | (refine T.g rfl trivial rfl rfl fun Y Z => ?_; simp only [zz, simprocAttr, -Int.reduceNatCast', -Int.reduceToNat, tt, q9q]; refine Z _ _ ?_; clear Z Y)
              all_goals have q10q := J11 e0 e1 e2 e8 e9 hi hj hg hgq @encP.eq_1 @List.length_map.{0,0}
              all_goals first | (refine T.cl q10q hmerge ?_) | (refine T.g rfl trivial rfl rfl fun Y Z => ?_; simp only [zz, simprocAttr, -Int.reduceNatCast', -Int.reduceToNat, q10q]; refine Z _ _ ?_; clear Z Y)
              all_goals iterate 2 refine T.one q10q ?_
              all_goals have q11q := J11 e0 e1 e2 e8 e9 hi hj hg hgq @encP.eq_1 @List.length_map.{0,0}
              all_goals first | (refine T.g rfl trivial rfl rfl fun Y Z => ?_; simp only [zz, simprocAttr, -Int.reduceNatCast', -Int.reduceToNat, tt, q11q]; refine Z _ _ ?_; clear Z Y) | (refine T.g rfl trivial rfl rfl fun Y Z => ?_; simp only [zz, simprocAttr, -Int.reduceNatCast', -Int.reduceToNat, q11q]; refine Z _ _ ?_; clear Z Y)
              all_goals iterate 2 refine T.one q11q ?_
              all_goals refine T.nil ?_
              all_goals simp only [ze, simprocAttr, q11q]
              all_goals ((try and_intros) <;> first | rfl | assumption | (exact hk7))
            rintro s3 σ ⟨rfl, e0, e1, e2, e7', e8, e9, e11, e10, l10⟩
            rw [← e7'] at e7
            all_goals refine AW.sr e11 ?_
            refine AW.cd true (fun _ => ?_) (fun h => by cases h)
            have hle := putP_len out' m
            have hput := rputP_spec out' m (by omega) (fun x hx => (hok' x hx).toL)
            have hpo := putP_okQ hok' (mg_okQ hpq hqq hmq)
            rcases e7 with e7 | ⟨e7, rfl⟩
            · skip
              refine AW.reg0 ?_
              iterate 2 refine S.one (J3 e7 e10 l10) ?_
              refine S.cl (J3 e7 e10 l10) hput ?_
              all_goals refine S.one (J3 e7 e10 l10) ?_
              all_goals refine S.nil ?_
              all_goals simp only [ze, simprocAttr, e7, e10, l10]
              refine ⟨putP out' m, by omega, hpo, hq, ?_⟩
              all_goals ((try and_intros) <;> first | rfl | assumption | (exact .inl rfl))
            · skip
              refine AW.reg0 ?_
              iterate 2 refine S.one (J3 e7 e10 l10) ?_
              refine S.cl (J3 e7 e10 l10) hput ?_
              all_goals refine S.one (J3 e7 e10 l10) ?_
              all_goals refine S.nil ?_
              all_goals simp only [ze, simprocAttr, e7, e10, l10]
              refine ⟨putP [] m, by omega, hpo, hq, ?_⟩
              all_goals ((try and_intros) <;> first | rfl | assumption | (exact .inl rfl))
        rintro s2 σ ⟨rfl, out2, hl2, hok2, hq2, e0, e1, e2, e7, e8, e9⟩
        all_goals have q12q := J6 e9 hwj e0 e1 e2 e8
        all_goals refine AW.reg0 (S.rn q12q ?_)
        all_goals simp only [ze, simprocAttr, q12q]
        refine ⟨m2 - 1, by omega, j + 1, out2, by omega, by omega, hok2, hq2, ?_⟩
        all_goals ((try and_intros) <;> first | rfl | assumption | (exact e7))
      · have hj := of_decide_eq_false hj
        refine AW.exit ?_
        simp only [zs, simprocAttr]
        rw [List.drop_of_length_le (by omega), rowR] at hq
        rw [hq]
        refine ⟨e0, e1, e2, e7, e8, by omega, hok'⟩
    rintro s2 σ ⟨rfl, e0, e1, e2, e7, e8, hl2, hok2⟩
    generalize rowR (decide (kind = 2)) p out b = o2 at *
    refine AW.seq_j (fun s' σ' => σ' = Hp.empty ∧ s'.t 0 = .c (.int .i64 kind) ∧ s'.t 1 = .sl (a.map encP) ∧ s'.t 2 = .sl (b.map encP) ∧ SlP o2 (s'.t 7) ∧ s'.t 8 = .c (.int .i64 (i : Nat)) ∧ s'.t 57 = .c (.bool (decide (4096 < o2.length)))) ?_ ?_
    · have q1 : ((o2.length : Int) > 4096) = (4096 < o2.length) := by rw [eq_iff_iff]; omega
      rcases e7 with e7 | ⟨e7, rfl⟩
      · skip
        have q13q := J7 e7 q1 @List.length_map.{0,0} e0 e1 e2 e8
        refine AW.reg0 (S.rn q13q ?_)
        simp only [ze, simprocAttr, q13q]
        all_goals ((try and_intros) <;> first | rfl | assumption | (exact .inl rfl))
      · skip
        have q14q := J7 e7 q1 @List.length_map.{0,0} e0 e1 e2 e8
        refine AW.reg0 (S.rn q14q ?_)
        simp only [ze, simprocAttr, q14q]
        all_goals ((try and_intros) <;> first | rfl | assumption | (exact .inr ⟨rfl, rfl⟩))
    rintro s3 σ ⟨rfl, e0, e1, e2, e7, e8, e57⟩
    refine AW.cond (b := decide (4096 < o2.length)) e57 (fun hc => ?_) (fun hc => ?_)
    · have hc := of_decide_eq_true hc
      rw [if_pos hc] at hp
      rcases e7 with e7 | ⟨e7, rfl⟩
      · refine AW.sr e7 ?_
        refine AW.ret ?_
        simp only [zs, simprocAttr]
        all_goals ((try and_intros) <;> first | rfl | assumption | (rw [hp]))
      · exact absurd hc (by simp)
    · have hc := of_decide_eq_false hc
      rw [if_neg hc] at hp
      refine AW.skip ?_
      simp only [zs, simprocAttr]
      all_goals apply_assumption
      have q15q := J5 e8 hw e0 e1 e2
      refine AW.reg0 (S.rn q15q ?_)
      simp only [ze, simprocAttr, q15q]
      refine ⟨m - 1, by omega, i + 1, o2, by omega, by omega, hok2, hp, ?_⟩
      all_goals ((try and_intros) <;> first | rfl | assumption | (exact e7))
  · have hi := of_decide_eq_false hi
    refine AW.exit ?_
    simp only [zs, simprocAttr]
    all_goals apply_assumption
    rw [List.drop_of_length_le (by omega), joinR] at hp
    rcases e7 with e7 | ⟨e7, rfl⟩
    · refine AW.sr e7 ?_
      refine AW.ret ?_
      simp only [zs, simprocAttr]
      all_goals ((try and_intros) <;> first | rfl | assumption | (rw [hp]))
    · refine AW.sr e7 ?_
      refine AW.ret ?_
      simp only [zs, simprocAttr]
      all_goals ((try and_intros) <;> first | rfl | assumption | (((rw [hp]) <;> rfl)))
def leafGo (n : Nd) (out : List (List Bd)) : List Ev → List (List Bd)
  | [] => out
  | e :: r => leafGo n (if termB n e then putP out [⟨n.var, e⟩] else out) r
def stepR (kind : Int) : Option (List (List Bd)) → List (List Bd) → List (List Bd)
  | none, l => l
  | some a, l => if kind = 4 then l.foldl putP a else joinR (decide (kind = 2)) l [] a
def refGo (kind : Int) : Option (List (List Bd)) → List (Option (List (List Bd))) → Option (List (List Bd))
  | acc, [] => some (acc.getD [])
  | _, none :: _ => none
  | acc, some l :: r => if 4096 < (stepR kind acc l).length then none else refGo kind (some (stepR kind acc l)) r
def refF (evs : List Ev) (n : Nd) (l : List (Option (List (List Bd)))) : Option (List (List Bd)) := if n.kind = 1 then some (leafGo n [] evs) else refGo n.kind none l
def Nd.ref (evs : List Ev) (n : Nd) : Option (List (List Bd)) := n.para (refF evs)
theorem Nd.ref_eq (evs : List Ev) (n : Nd) : n.ref evs = if n.kind = 1 then some (leafGo n [] evs) else refGo n.kind none (n.kids.map (Nd.ref evs)) := Nd.para_eq _ n
structure okEvs (evs : List Ev) : Prop where
  len : evs.length ≤ 64
  ok : ∀ e ∈ evs, okE e
  few : ∀ e ∈ evs, e.attrs.length ≤ 8
  time : ∀ e ∈ evs, inI64 e.time
theorem leaf_okQ {n : Nd} {e : Ev} (hn : n.var.size < 4611686018427387904) (he : okE e) (hf : e.attrs.length ≤ 8) (ht : inI64 e.time) : okQ [⟨n.var, e⟩] :=
 ⟨by simp, fun b hb => by rw [List.mem_singleton.1 hb]; exact ⟨hn, he⟩, fun b hb => by rw [List.mem_singleton.1 hb]; exact hf, fun b hb => by rw [List.mem_singleton.1 hb]; exact ht⟩
theorem rowR_okQ {two : Bool} {p : List Bd} (hp : okQ p) : ∀ (b : List (List Bd)) {out : List (List Bd)}, (∀ x ∈ out, okQ x) → (∀ q ∈ b, okQ q) → (∀ x ∈ rowR two p out b, okQ x) ∧ (rowR two p out b).length ≤ out.length + b.length
  | [], out, ho, _ => ⟨ho, by simp [rowR]⟩
  | q :: b, out, ho, hb => by
    have hb' : ∀ q ∈ b, okQ q := fun x hx => hb x (List.mem_cons_of_mem _ hx)
    rw [rowR]
    split
    · obtain ⟨h1, h2⟩ := rowR_okQ (two := two) hp b ho hb'
      exact ⟨h1, by rw [List.length_cons]; omega⟩
    · split
      · rename_i m hm
        obtain ⟨h1, h2⟩ := rowR_okQ (two := two) hp b (putP_okQ ho (mg_okQ hp (hb q List.mem_cons_self) hm)) hb'
        have := putP_len out m
        exact ⟨h1, by rw [List.length_cons]; omega⟩
      · obtain ⟨h1, h2⟩ := rowR_okQ (two := two) hp b ho hb'
        exact ⟨h1, by rw [List.length_cons]; omega⟩
theorem joinR_okQ {two : Bool} {b : List (List Bd)} (hb : ∀ q ∈ b, okQ q) (hbl : b.length ≤ 4096) : ∀ (a : List (List Bd)) {out : List (List Bd)}, (∀ x ∈ out, okQ x) → out.length ≤ 4096 → (∀ q ∈ a, okQ q) → (∀ x ∈ joinR two b out a, okQ x) ∧ (joinR two b out a).length ≤ 8192
  | [], out, ho, hl, _ => ⟨ho, by rw [joinR]; omega⟩
  | p :: a, out, ho, hl, ha => by
    obtain ⟨h1, h2⟩ := rowR_okQ (two := two) (ha p List.mem_cons_self) b ho hb
    rw [joinR]
    split
    · exact ⟨h1, by omega⟩
    · exact joinR_okQ hb hbl a h1 (by omega) fun x hx => ha x (List.mem_cons_of_mem _ hx)
theorem puts_okQ : ∀ (l : List (List Bd)) {a : List (List Bd)}, (∀ x ∈ a, okQ x) → (∀ x ∈ l, okQ x) → (∀ x ∈ l.foldl putP a, okQ x) ∧ (l.foldl putP a).length ≤ a.length + l.length
  | [], a, ha, _ => ⟨ha, by simp⟩
  | x :: l, a, ha, hl => by
    obtain ⟨h1, h2⟩ := puts_okQ l (putP_okQ ha (hl x List.mem_cons_self)) fun y hy => hl y (List.mem_cons_of_mem _ hy)
    have := putP_len a x
    exact ⟨h1, by rw [List.foldl_cons, List.length_cons]; omega⟩
theorem leafGo_okQ {n : Nd} (hn : n.var.size < 4611686018427387904) : ∀ (evs : List Ev) {out : List (List Bd)}, (∀ x ∈ out, okQ x) → (∀ e ∈ evs, okE e ∧ e.attrs.length ≤ 8 ∧ inI64 e.time) → (∀ x ∈ leafGo n out evs, okQ x) ∧ (leafGo n out evs).length ≤ out.length + evs.length
  | [], out, ho, _ => ⟨ho, by simp [leafGo]⟩
  | e :: r, out, ho, he => by
    obtain ⟨k1, k2, k3⟩ := he e List.mem_cons_self
    have he' : ∀ e ∈ r, okE e ∧ e.attrs.length ≤ 8 ∧ inI64 e.time := fun x hx => he x (List.mem_cons_of_mem _ hx)
    rw [leafGo]
    split
    · obtain ⟨h1, h2⟩ := leafGo_okQ hn r (putP_okQ ho (leaf_okQ hn k1 k2 k3)) he'
      have := putP_len out [⟨n.var, e⟩]
      exact ⟨h1, by rw [List.length_cons]; omega⟩
    · obtain ⟨h1, h2⟩ := leafGo_okQ hn r ho he'
      exact ⟨h1, by rw [List.length_cons]; omega⟩
theorem refGo_okQ {kind : Int} : ∀ {r : List (Option (List (List Bd)))} {acc : Option (List (List Bd))} {l : List (List Bd)}, (∀ a, acc = some a → a.length ≤ 4096 ∧ ∀ x ∈ a, okQ x) → (∀ k ∈ r, ∀ a, k = some a → a.length ≤ 4096 ∧ ∀ x ∈ a, okQ x) → refGo kind acc r = some l → l.length ≤ 4096 ∧ ∀ x ∈ l, okQ x
  | [], acc, l, ha, _, h => by
    rw [refGo] at h
    injection h with h
    cases acc with
    | none => subst h; simp
    | some a => subst h; exact ha a rfl
  | none :: r, acc, l, _, _, h => by cases acc <;> simp [refGo] at h
  | some k :: r, acc, l, ha, hr, h => by
    have hk := hr (some k) List.mem_cons_self k rfl
    have hst : ∀ x ∈ stepR kind acc k, okQ x := by
      cases acc with
      | none => exact hk.2
      | some a =>
        obtain ⟨h1, h2⟩ := ha a rfl
        rw [stepR]
        split
        · exact (puts_okQ k h2 hk.2).1
        · exact (joinR_okQ hk.2 hk.1 a (fun x hx => by cases hx) (by simp) h2).1
    have e : refGo kind acc (some k :: r) = if 4096 < (stepR kind acc k).length then none else refGo kind (some (stepR kind acc k)) r := by cases acc <;> rfl
    rw [e] at h
    split at h
    · cases h
    · exact refGo_okQ (fun a e => by cases e; exact ⟨by omega, hst⟩) (fun x hx => hr x (List.mem_cons_of_mem _ hx)) h
theorem Nd.ref_okQ {evs : List Ev} (hev : okEvs evs) : ∀ n : Nd, n.ok → ∀ l, n.ref evs = some l → l.length ≤ 4096 ∧ ∀ x ∈ l, okQ x := Nd.ind fun n ih ho l h => by
 rw [Nd.ref_eq] at h
 split at h
 ·injection h with h
  subst h
  obtain ⟨h1, h2⟩ := leafGo_okQ ho.own.var evs (out := []) (fun x hx => by cases hx) fun e he => ⟨hev.ok e he, hev.few e he, hev.time e he⟩
  exact ⟨by have := hev.len; simp at h2; omega, h1⟩
 ·refine refGo_okQ (fun a e => by cases e) (fun k hk a e => ?_) h
  obtain ⟨x, hx, rfl⟩ := List.mem_map.1 hk
  exact ih x hx (ho.kid hx) a e
def nodeV : Option (List (List Bd)) → V
  | none => .tup [.sl [], .c (.bool false)]
  | some l => .tup [.sl (l.map encP), .c (.bool true)]
theorem ev_get {evs : List Ev} {i : Nat} (h : i < evs.length) : ∃ e, evs[i]? = some e ∧ e ∈ evs ∧ (evs.map encEv).getD i [] = encEv e ∧ evs.drop i = e :: evs.drop (i + 1) := ⟨evs[i], List.getElem?_eq_getElem h, List.getElem_mem h, getD_map h, List.drop_eq_getElem_cons h⟩
theorem refGo_some (kind : Int) (acc : Option (List (List Bd))) (l : List (List Bd)) (r : List (Option (List (List Bd)))) : refGo kind acc (some l :: r) = if 4096 < (stepR kind acc l).length then none else refGo kind (some (stepR kind acc l)) r := by cases acc <;> rfl
theorem refGo_none (kind : Int) (acc : Option (List (List Bd))) (r : List (Option (List (List Bd)))) : refGo kind acc (none :: r) = none := by cases acc <;> rfl
theorem rnodeP_spec {evs : List Ev} (hev : okEvs evs) : ∀ n : Nd, n.small → n.ok → PCalls Tryz.prog 42 [.agg (encNd n), .sl (evs.map encEv)] (fun v => v = nodeV (n.ref evs)) := Nd.ind fun n ih hn ho => by
  have hl := hn.len
  have hE := (encNd_eq n).symm
  have hre := n.ref_eq evs
  have hvl := ho.own.var
  have helen := hev.len
  rw [encNd_eq]
  refine PCalls.intro Tryz.call42 Tryz.func42 rfl Tryz.ntmps42 Tryz.results42 (by simp) ?_
  refine AW.sr trivial ?_
  refine AW.sr trivial ?_
  refine AW.seq_k fun K3 h3 => ?_
  refine AW.sr trivial ?_
  refine AW.cd (n.kind == 1) (fun hk => ?_) (fun hk => ?_)
  · have hk : n.kind = 1 := by simpa using hk
    rw [if_pos hk] at hre
    refine AW.seq_k fun K5 h5 => ?_
    refine AW.sr trivial ?_
    refine AW.block ?_   -- 0
    refine AW.loop (fun m s σ => σ = Hp.empty ∧ ∃ (i : Nat) (out : List (List Bd)), m + i = evs.length ∧ out.length ≤ i ∧ (∀ x ∈ out, okQ x) ∧ n.ref evs = some (leafGo n out (evs.drop i)) ∧ s.t 1 = .sl (evs.map encEv) ∧ s.t 2 = .lp 2 0 ∧ s.l 2 = some [.c (.int .i64 n.kind), .c (.string n.var), .c (.string n.type), .sl (n.tests.map encC), .sl (n.kids.map encNd)] ∧ SlP out (s.t 6) ∧ s.t 7 = .c (.int .i64 (i : Nat))) evs.length ?_ ?_
    · refine ⟨rfl, 0, [], by simp, by simp, by simp, by simpa using hre, ?_⟩
      simp only [zs, simprocAttr]
      all_goals ((try and_intros) <;> first | rfl | assumption | (exact .inr ⟨rfl, rfl⟩))
    rintro m s σ ⟨rfl, i, out, hm, hlen, hok, hp, e1, e2, l2, e6, e7⟩
    refine AW.seq_k fun K7 h7 => ?_
    all_goals refine AW.sr (J3 e1 e7 @List.length_map.{0,0}) ?_
    refine AW.cd (decide (i < evs.length)) (fun hi => ?_) (fun hi => ?_)
    · have hi := of_decide_eq_true hi
      obtain ⟨x, hx, hxm, hg, hd⟩ := ev_get hi
      have hxo := hev.ok x hxm
      have hxf := hev.few x hxm
      have hw := wadd1 (a := i) (by omega)
      have hterm := rTerm_spec n x (by omega) ho.own.len
      rw [encNd_eq] at hterm
      rw [hd, leafGo] at hp
      have hput := rputP_spec out [⟨n.var, x⟩] (by omega) (fun x hx => (hok x hx).toL)
      refine AW.skip ?_
      simp only [zs, simprocAttr]
      all_goals apply_assumption
      refine AW.seq_j (fun s' σ' => σ' = Hp.empty ∧ ∃ out2 : List (List Bd), out2.length ≤ i + 1 ∧ (∀ x ∈ out2, okQ x) ∧ n.ref evs = some (leafGo n out2 (evs.drop (i + 1))) ∧ s'.t 1 = .sl (evs.map encEv) ∧ s'.t 2 = .lp 2 0 ∧ s'.l 2 = some [.c (.int .i64 n.kind), .c (.string n.var), .c (.string n.type), .sl (n.tests.map encC), .sl (n.kids.map encNd)] ∧ SlP out2 (s'.t 6) ∧ s'.t 7 = .c (.int .i64 (i : Nat))) ?_ ?_
      · refine AW.block ?_   -- 1
        refine AW.seq_k fun K9 h9 => ?_
        refine AW.dv { sd := fun d => d == 2 } [(1,0),(2,0),(3,0),(0,1),(4,1),(5,2)] ?_
        have q1q := J8 e1 e2 l2 e7 hi hg @encEv.eq_1 @List.length_map.{0,0}
        iterate 3 refine D.one q1q ?_
        iterate 2 refine D.one q1q ?_
        refine D.cl (J8 e1 e2 l2 e7 hi hg @encEv.eq_1 @List.length_map.{0,0}) hterm ?_
        all_goals (refine D.nil ?_; apply_assumption)
        refine AW.cd (termB n x) (fun hc => ?_) (fun hc => ?_)
        · rw [if_pos hc] at hp
          have hpl := putP_len out [⟨n.var, x⟩]
          have hpo := putP_okQ hok (leaf_okQ (n := n) hvl hxo hxf (hev.time x hxm))
          rcases e6 with e6 | ⟨e6, rfl⟩
          · skip
            refine AW.dv { sd := fun d => d == 2 } [(0,0),(1,0),(3,0),(4,0),(5,0),(2,1),(6,1),(7,0),(8,2),(9,0),(10,2),(11,0)] ?_
            have q2q := J9 e1 e2 l2 e6 e7 hi hg @encEv.eq_1 @List.length_map.{0,0}
            iterate 5 refine D.one q2q ?_
            iterate 2 refine D.one q2q ?_
            iterate 3 (refine D.g rfl trivial rfl rfl fun Y Z => ?_; simp only [zb, simprocAttr, -Int.reduceNatCast', -Int.reduceToNat, tt, e1, e2, l2, e6, e7, hi, hg, encEv, List.length_map]; refine Z _ _ ?_; clear Z Y)
            all_goals have q3q := J9 e1 e2 l2 e6 e7 hi hg @encEv.eq_1 @List.length_map.{0,0}
            all_goals refine D.cl q3q hput ?_
            all_goals refine D.one q3q ?_
            all_goals refine D.nil ?_
            all_goals simp only [ze, simprocAttr, q3q]
            refine ⟨_, by omega, hpo, hp, ?_⟩
            all_goals ((try and_intros) <;> first | rfl | assumption | (exact .inl rfl))
          · skip
            refine AW.dv { sd := fun d => d == 2 } [(0,0),(1,0),(3,0),(4,0),(5,0),(2,1),(6,1),(7,0),(8,2),(9,0),(10,2),(11,0)] ?_
            have q4q := J9 e1 e2 l2 e6 e7 hi hg @encEv.eq_1 @List.length_map.{0,0}
            iterate 5 refine D.one q4q ?_
            iterate 2 refine D.one q4q ?_
            iterate 3 (refine D.g rfl trivial rfl rfl fun Y Z => ?_; simp only [zb, simprocAttr, -Int.reduceNatCast', -Int.reduceToNat, tt, e1, e2, l2, e6, e7, hi, hg, encEv, List.length_map]; refine Z _ _ ?_; clear Z Y)
            all_goals have q5q := J9 e1 e2 l2 e6 e7 hi hg @encEv.eq_1 @List.length_map.{0,0}
            all_goals refine D.cl q5q hput ?_
            all_goals refine D.one q5q ?_
            all_goals refine D.nil ?_
            all_goals simp only [ze, simprocAttr, q5q]
            refine ⟨_, by omega, hpo, hp, ?_⟩
            all_goals ((try and_intros) <;> first | rfl | assumption | (exact .inl rfl))
        · rw [hc, if_neg Bool.false_ne_true] at hp
          refine AW.skip ?_
          simp only [zs, simprocAttr]
          refine ⟨out, by omega, hok, hp, ?_⟩
          all_goals ((try and_intros) <;> first | rfl | assumption | (exact e6))
      rintro s2 σ ⟨rfl, out2, hl2, hok2, hp2, e1, e2, l2, e6, e7⟩
      all_goals have q6q := J5 e7 hw e1 e2 l2
      all_goals refine AW.reg0 (S.rn q6q ?_)
      all_goals simp only [ze, simprocAttr, q6q]
      refine ⟨m - 1, by omega, i + 1, out2, by omega, by omega, hok2, hp2, ?_⟩
      all_goals ((try and_intros) <;> first | rfl | assumption | (exact e6))
    · have hi := of_decide_eq_false hi
      refine AW.exit ?_
      simp only [zs, simprocAttr]
      all_goals apply_assumption
      rw [List.drop_of_length_le (by omega), leafGo] at hp
      rcases e6 with e6 | ⟨e6, rfl⟩
      · refine AW.sr e6 ?_
        refine AW.ret ?_
        simp only [zs, simprocAttr]
        all_goals ((try and_intros) <;> first | rfl | assumption | (((rw [hp]) <;> rfl)))
      · refine AW.sr e6 ?_
        refine AW.ret ?_
        simp only [zs, simprocAttr]
        all_goals ((try and_intros) <;> first | rfl | assumption | (((rw [hp]) <;> rfl)))
  have hk : ¬ n.kind = 1 := by simpa using hk
  rw [if_neg hk] at hre
  refine AW.skip ?_
  all_goals simp only [zs, simprocAttr]
  all_goals apply_assumption
  refine AW.seq_k fun K12 h12 => ?_
  all_goals refine AW.sr trivial ?_
  refine AW.block ?_   -- 2
  refine AW.loop (fun m s σ => σ = Hp.empty ∧ ∃ (i : Nat) (acc : Option (List (List Bd))), m + i = n.kids.length ∧ (i = 0 ↔ acc = none) ∧ (∀ a, acc = some a → a.length ≤ 4096 ∧ ∀ x ∈ a, okQ x) ∧ n.ref evs = refGo n.kind acc ((n.kids.drop i).map (Nd.ref evs)) ∧ s.t 1 = .sl (evs.map encEv) ∧ s.t 2 = .lp 2 0 ∧ s.l 2 = some [.c (.int .i64 n.kind), .c (.string n.var), .c (.string n.type), .sl (n.tests.map encC), .sl (n.kids.map encNd)] ∧ SlP (acc.getD []) (s.t 6) ∧ s.t 8 = .c (.int .i64 (i : Nat))) n.kids.length ?_ ?_
  · refine ⟨rfl, 0, none, by simp, by simp, (fun a h => by cases h), by simpa using hre, ?_⟩
    all_goals simp only [zs, simprocAttr]
    all_goals ((try and_intros) <;> first | rfl | assumption | (exact .inr ⟨rfl, rfl⟩))
  rintro m s σ ⟨rfl, i, acc, hm, hi0, hacc, hp, e1, e2, l2, e6, e8⟩
  refine AW.seq_k fun K14 h14 => ?_
  all_goals refine AW.sr (J4 e2 l2 e8 @List.length_map.{0,0}) ?_
  refine AW.cd (decide (i < n.kids.length)) (fun hi => ?_) (fun hi => ?_)
  · have hi := of_decide_eq_true hi
    obtain ⟨x, hx, hxm, hg⟩ := kid_get hi
    have hw := wadd1 (a := i) (by omega)
    have hkid := ih x hxm (hn.kid hxm) (ho.kid hxm)
    have hxq := Nd.ref_okQ hev x (ho.kid hxm)
    rw [kid_drop hx, List.map_cons] at hp
    refine AW.skip ?_
    simp only [zs, simprocAttr]
    all_goals apply_assumption
    refine AW.seq_k fun K16 h16 => ?_
    refine AW.block ?_   -- 3
    cases hr : x.ref evs with
    | none =>
      rw [hr] at hkid hp
      rw [refGo_none] at hp
      simp only [nodeV] at hkid
      refine AW.seq_k fun K17 h17 => ?_
      refine AW.reg0 ?_
      iterate 6 refine S.one (J8 e1 e2 l2 e8 hi hg @nd @List.length_map.{0,0}) ?_
      have q7q := J8 e1 e2 l2 e8 hi hg @nd @List.length_map.{0,0}
      refine S.cl q7q hkid ?_
      all_goals iterate 5 refine S.one q7q ?_
      all_goals (refine S.nil ?_; simp only [ze, simprocAttr, q7q]; apply_assumption)
      refine AW.seq_k fun K18 h18 => ?_
      all_goals refine AW.sr trivial ?_
      refine AW.cd true (fun _ => ?_) (fun h => by cases h)
      all_goals refine AW.sr trivial ?_
      refine AW.ret ?_
      all_goals simp only [zs, simprocAttr]
      all_goals ((try and_intros) <;> first | rfl | assumption | (((rw [hp]) <;> rfl)))
    | some l =>
      rw [hr] at hkid hp
      rw [refGo_some] at hp
      obtain ⟨hll, hlq⟩ := hxq l hr
      simp only [nodeV] at hkid
      refine AW.seq_k fun K21 h21 => ?_
      refine AW.reg0 ?_
      iterate 6 refine S.one (J8 e1 e2 l2 e8 hi hg @nd @List.length_map.{0,0}) ?_
      have q8q := J8 e1 e2 l2 e8 hi hg @nd @List.length_map.{0,0}
      refine S.cl q8q hkid ?_
      all_goals iterate 5 refine S.one q8q ?_
      all_goals (refine S.nil ?_; simp only [ze, simprocAttr, q8q]; apply_assumption)
      refine AW.seq_k fun K22 h22 => ?_
      all_goals refine AW.sr trivial ?_
      refine AW.cd false (fun h => by cases h) (fun _ => ?_)
      refine AW.skip ?_
      all_goals simp only [zs, simprocAttr]
      all_goals apply_assumption
      refine AW.seq_j (fun s' σ' => σ' = Hp.empty ∧ s'.t 1 = .sl (evs.map encEv) ∧ s'.t 2 = .lp 2 0 ∧ s'.l 2 = some [.c (.int .i64 n.kind), .c (.string n.var), .c (.string n.type), .sl (n.tests.map encC), .sl (n.kids.map encNd)] ∧ SlP (stepR n.kind acc l) (s'.t 6) ∧ s'.t 8 = .c (.int .i64 (i : Nat)) ∧ (stepR n.kind acc l).length ≤ 8192 ∧ ∀ x ∈ stepR n.kind acc l, okQ x) ?_ ?_
      · refine AW.block ?_   -- 4
        refine AW.seq_k fun K24 h24 => ?_
        have hi0b : ((i : Int) == 0) = (i == 0) := by rw [Bool.eq_iff_iff, beq_iff_eq, beq_iff_eq]; omega
        refine AW.reg0 (S.rn e8 ?_)
        all_goals apply_assumption
        refine AW.cond (b := i == 0) (by simp [ev, hi0b]) (fun h0 => ?_) (fun h0 => ?_)
        · have h0 : i = 0 := by simpa using h0
          have ha := hi0.1 h0
          subst ha
          refine AW.reg0 (S.rn trivial ?_)
          simp only [ze, simprocAttr]
          all_goals ((try and_intros) <;> first | rfl | assumption | ((first | exact .inl rfl | (rw [stepR]; omega) | exact hlq)))
        · have h0 : ¬ i = 0 := by simpa using h0
          obtain ⟨a, rfl⟩ : ∃ a, acc = some a := by
            cases acc with
            | none => exact absurd (hi0.2 rfl) h0
            | some a => exact ⟨a, rfl⟩
          obtain ⟨hal, haq⟩ := hacc a rfl
          replace e6 : SlP a (s.t 6) := e6
          refine AW.sr (J2 e2 l2) ?_
          refine AW.cd (n.kind == 4) (fun h4 => ?_) (fun h4 => ?_)
          · have h4 : n.kind = 4 := by simpa using h4
            obtain ⟨hp1, hp2⟩ := puts_okQ l haq hlq
            have hstep : stepR n.kind (some a) l = l.foldl putP a := by rw [stepR, if_pos h4]
            rw [hstep]
            refine AW.sr trivial ?_
            refine AW.block ?_   -- 5
            refine AW.loop (fun m2 s σ => σ = Hp.empty ∧ ∃ (j : Nat) (out : List (List Bd)), m2 + j = l.length ∧ out.length ≤ 4096 + j ∧ (∀ x ∈ out, okQ x) ∧ l.foldl putP a = (l.drop j).foldl putP out ∧ s.t 1 = .sl (evs.map encEv) ∧ s.t 2 = .lp 2 0 ∧ s.l 2 = some [.c (.int .i64 n.kind), .c (.string n.var), .c (.string n.type), .sl (n.tests.map encC), .sl (n.kids.map encNd)] ∧ SlP out (s.t 6) ∧ s.t 8 = .c (.int .i64 (i : Nat)) ∧ s.t 9 = .sl (l.map encP) ∧ s.t 11 = .c (.int .i64 (j : Nat))) l.length ?_ ?_
            · refine ⟨rfl, 0, a, by simp, by omega, haq, rfl, ?_⟩
              simp only [zs, simprocAttr, e1, e2, l2, e8]
              all_goals ((try and_intros) <;> first | rfl | assumption | (exact e6))
            rintro m2 s σ ⟨rfl, j, out, hm2, hlen, hok, hq, e1, e2, l2, e6, e8, e9, e11⟩
            refine AW.seq_k fun K27 h27 => ?_
            all_goals refine AW.sr (J3 e9 e11 @List.length_map.{0,0}) ?_
            refine AW.cd (decide (j < l.length)) (fun hj => ?_) (fun hj => ?_)
            · have hj := of_decide_eq_true hj
              obtain ⟨y, hy, hym, hgy, hdy, _⟩ := part_get hj
              have hwj := wadd1 (a := j) (by omega)
              have hput := rputP_spec out y (by omega) (fun x hx => (hok x hx).toL)
              have hpl := putP_len out y
              have hpo := putP_okQ hok (hlq y hym)
              rw [hdy, List.foldl_cons] at hq
              refine AW.skip ?_
              simp only [zs, simprocAttr]
              all_goals apply_assumption
              refine AW.seq_k fun K29 h29 => ?_
              refine AW.block ?_   -- 6
              rcases e6 with e6 | ⟨e6, rfl⟩
              · skip
                refine AW.reg0 ?_
                iterate 5 refine S.one (J11 e1 e2 l2 e6 e8 e9 e11 hj hgy @encP.eq_1 @List.length_map.{0,0}) ?_
                have q9q := J11 e1 e2 l2 e6 e8 e9 e11 hj hgy @encP.eq_1 @List.length_map.{0,0}
                refine S.cl q9q hput ?_
                all_goals refine S.one q9q ?_
                all_goals (refine S.nil ?_; simp only [ze, simprocAttr, q9q]; apply_assumption)
                all_goals have q10q := J7 e1 e2 l2 e8 e9 e11 hwj
                all_goals refine AW.reg0 (S.rn q10q ?_)
                all_goals simp only [ze, simprocAttr, q10q]
                refine ⟨m2 - 1, by omega, j + 1, _, by omega, by omega, hpo, hq, ?_⟩
                all_goals ((try and_intros) <;> first | rfl | assumption | (exact .inl rfl))
              · skip
                refine AW.reg0 ?_
                iterate 5 refine S.one (J11 e1 e2 l2 e6 e8 e9 e11 hj hgy @encP.eq_1 @List.length_map.{0,0}) ?_
                have q11q := J11 e1 e2 l2 e6 e8 e9 e11 hj hgy @encP.eq_1 @List.length_map.{0,0}
                refine S.cl q11q hput ?_
                all_goals refine S.one q11q ?_
                all_goals (refine S.nil ?_; simp only [ze, simprocAttr, q11q]; apply_assumption)
                all_goals have q12q := J7 e1 e2 l2 e8 e9 e11 hwj
                all_goals refine AW.reg0 (S.rn q12q ?_)
                all_goals simp only [ze, simprocAttr, q12q]
                refine ⟨m2 - 1, by omega, j + 1, _, by omega, by omega, hpo, hq, ?_⟩
                all_goals ((try and_intros) <;> first | rfl | assumption | (exact .inl rfl))
            · have hj := of_decide_eq_false hj
              refine AW.exit ?_
              simp only [zs, simprocAttr]
              rw [List.drop_of_length_le (by omega)] at hq
              have hq : l.foldl putP a = out := hq
              rw [hq]
              refine ⟨e1, e2, l2, e6, e8, by omega, hok⟩
          · have h4 : ¬ n.kind = 4 := by simpa using h4
            obtain ⟨hp1, hp2⟩ := joinR_okQ (two := decide (n.kind = 2)) hlq hll a (out := []) (fun x hx => by cases hx) (by simp) haq
            have hjoin := rjoined_spec n.kind a l hal hll haq hlq
            have hstep : stepR n.kind (some a) l = joinR (decide (n.kind = 2)) l [] a := by rw [stepR, if_neg h4]
            rw [hstep]
            rcases e6 with e6 | ⟨e6, rfl⟩
            · skip
              refine AW.reg0 ?_
              iterate 4 refine S.one (J5 e1 e2 l2 e6 e8) ?_
              have q13q := J5 e1 e2 l2 e6 e8
              refine S.cl q13q hjoin ?_
              all_goals refine S.one q13q ?_
              all_goals refine S.nil ?_
              all_goals simp only [ze, simprocAttr, q13q]
              all_goals ((try and_intros) <;> first | rfl | assumption | (exact .inl rfl))
            · skip
              refine AW.reg0 ?_
              iterate 4 refine S.one (J5 e1 e2 l2 e6 e8) ?_
              have q14q := J5 e1 e2 l2 e6 e8
              refine S.cl q14q hjoin ?_
              all_goals refine S.one q14q ?_
              all_goals refine S.nil ?_
              all_goals simp only [ze, simprocAttr, q14q]
              all_goals ((try and_intros) <;> first | rfl | assumption | (exact .inl rfl))
      rintro s2 σ ⟨rfl, e1, e2, l2, e6, e8, hl2, hok2⟩
      generalize stepR n.kind acc l = o2 at *
      refine AW.seq_j (fun s' σ' => σ' = Hp.empty ∧ s'.t 1 = .sl (evs.map encEv) ∧ s'.t 2 = .lp 2 0 ∧ s'.l 2 = some [.c (.int .i64 n.kind), .c (.string n.var), .c (.string n.type), .sl (n.tests.map encC), .sl (n.kids.map encNd)] ∧ SlP o2 (s'.t 6) ∧ s'.t 8 = .c (.int .i64 (i : Nat)) ∧ s'.t 85 = .c (.bool (decide (4096 < o2.length)))) ?_ ?_
      · have q1 : ((o2.length : Int) > 4096) = (4096 < o2.length) := by rw [eq_iff_iff]; omega
        rcases e6 with e6 | ⟨e6, rfl⟩
        · skip
          have q15q := J7 e6 q1 @List.length_map.{0,0} e1 e2 l2 e8
          refine AW.reg0 (S.rn q15q ?_)
          simp only [ze, simprocAttr, q15q]
          all_goals ((try and_intros) <;> first | rfl | assumption | (exact .inl rfl))
        · skip
          have q16q := J7 e6 q1 @List.length_map.{0,0} e1 e2 l2 e8
          refine AW.reg0 (S.rn q16q ?_)
          simp only [ze, simprocAttr, q16q]
          all_goals ((try and_intros) <;> first | rfl | assumption | (exact .inr ⟨rfl, rfl⟩))
      rintro s3 σ ⟨rfl, e1, e2, l2, e6, e8, e85⟩
      refine AW.cond (b := decide (4096 < o2.length)) e85 (fun hc => ?_) (fun hc => ?_)
      · have hc := of_decide_eq_true hc
        rw [if_pos hc] at hp
        refine AW.sr trivial ?_
        refine AW.ret ?_
        simp only [zs, simprocAttr]
        all_goals ((try and_intros) <;> first | rfl | assumption | (((rw [hp]) <;> rfl)))
      · have hc := of_decide_eq_false hc
        rw [if_neg hc] at hp
        refine AW.skip ?_
        simp only [zs, simprocAttr]
        all_goals apply_assumption
        have q17q := J5 e8 hw e1 e2 l2
        refine AW.reg0 (S.rn q17q ?_)
        simp only [ze, simprocAttr, q17q]
        refine ⟨m - 1, by omega, i + 1, some o2, by omega, by simp, (fun a h => by cases h; exact ⟨by omega, hok2⟩), hp, ?_⟩
        all_goals ((try and_intros) <;> first | rfl | assumption | (exact e6))
  · have hi := of_decide_eq_false hi
    refine AW.exit ?_
    simp only [zs, simprocAttr]
    all_goals apply_assumption
    rw [List.drop_of_length_le (by omega), List.map_nil] at hp
    have hp : n.ref evs = some (acc.getD []) := by rw [hp]; cases acc <;> rfl
    generalize acc.getD [] = o at *
    rcases e6 with e6 | ⟨e6, rfl⟩
    · refine AW.sr e6 ?_
      refine AW.ret ?_
      simp only [zs, simprocAttr]
      all_goals ((try and_intros) <;> first | rfl | assumption | (((rw [hp]) <;> rfl)))
    · refine AW.sr e6 ?_
      refine AW.ret ?_
      simp only [zs, simprocAttr]
      all_goals ((try and_intros) <;> first | rfl | assumption | (((rw [hp]) <;> rfl)))
def sameEv (a b : Ev) : Bool := a.src == b.src && a.seq == b.seq
def clashAt (l : List Ev) (i : Nat) : Bool := (List.range i).any fun j => sameEv (l.getD j noEv) (l.getD i noEv)
def badAt (l : List Ev) (i : Nat) : Bool := !(evErr (l.getD i noEv) == 0) || clashAt l i
def evsBad (l : List Ev) : Bool := (List.range l.length).any (badAt l)
def optO : Option (List (List Bd)) → List (List Bd) × Int
  | none => ([], 6)
  | some l => (l, 0)
def nodeOut (n : Nd) (evs : List Ev) (d : Option (List (List Bd))) : List (List Bd) × Int :=
  if n.shape = 0 then (if n.binds = 0 then (if 64 < evs.length then ([], 3) else if evsBad evs then ([], 110) else optO d) else ([], n.binds)) else ([], n.shape)
def resP (o : List (List Bd) × Int) : V := .tup [.sl (o.1.map encP), .c (.int .i64 o.2)]
theorem evs_at {l : List Ev} {i : Nat} (h : i < l.length) : (l.map encEv).getD i [] = encEv (l.getD i noEv) := by
 rw [getD_map h, List.getD_eq_getElem?_getD, List.getElem?_eq_getElem h]; rfl
theorem evs_mem {l : List Ev} {i : Nat} (h : i < l.length) : l.getD i noEv ∈ l := by
 rw [List.getD_eq_getElem?_getD, List.getElem?_eq_getElem h]; exact List.getElem_mem h
theorem range_any {p : Nat → Bool} {n i : Nat} (h : i < n) (hp : p i = true) : (List.range n).any p = true := List.any_eq_true.2 ⟨i, List.mem_range.2 h, hp⟩
theorem range_anyS {p : Nat → Bool} (i : Nat) : (List.range (i + 1)).any p = ((List.range i).any p || p i) := by rw [List.range_succ, List.any_append]; simp
theorem few_of {e : Ev} (h : evErr e = 0) : e.attrs.length ≤ 8 := by
 unfold evErr at h
 split at h
 ·cases h
 ·unfold attrsErr at h
  split at h
  ·cases h
  ·omega
theorem time_of {e : Ev} (h : evErr e = 0) : 0 ≤ e.time ∧ e.time ≤ 1099511627776 := by
 unfold evErr at h
 split at h
 ·cases h
 ·rename_i k
  simp only [not_or, timeOk, decide_eq_false_iff_not, Decidable.not_not] at k
  exact k.2.2.2.1
theorem time_in {e : Ev} (h : evErr e = 0) : inI64 e.time := by have := time_of h; unfold inI64; omega
theorem evsBad_no {l : List Ev} (h : evsBad l = false) : (∀ e ∈ l, evErr e = 0) ∧ Dist l := by
 have hat : ∀ i, i < l.length → badAt l i = false := fun i hi => by
  cases hb : badAt l i
  ·rfl
  ·rw [evsBad, range_any hi hb] at h; cases h
 constructor
 ·intro e he
  obtain ⟨i, hi⟩ := List.getElem?_of_mem he
  obtain ⟨hil, rfl⟩ := List.getElem?_eq_some_iff.1 hi
  have := hat i hil
  rw [badAt, Bool.or_eq_false_iff] at this
  have := this.1
  rw [List.getD_eq_getElem?_getD, hi] at this
  simpa using this
 ·rw [Dist, List.pairwise_iff_getElem]
  intro i j hi hj hij hs
  have := hat j hj
  rw [badAt, Bool.or_eq_false_iff] at this
  have := this.2
  rw [clashAt, range_any hij (by
   rw [List.getD_eq_getElem?_getD, List.getD_eq_getElem?_getD, List.getElem?_eq_getElem hi, List.getElem?_eq_getElem hj]
   simp [sameEv, hs.1, hs.2])] at this
  cases this
theorem rNode_spec (n : Nd) (hn : n.small) (ho : n.ok) (evs : List Ev) (hel : evs.length < 4611686018427387904) (heo : ∀ e ∈ evs, okE e) : PCalls Tryz.prog 12 [.agg (encNd n), .sl (evs.map encEv)] (fun v => v = resP (nodeOut n evs (n.ref evs))) := by
  have hE := (encNd_eq n).symm
  refine PCalls.intro Tryz.call12 Tryz.func12 rfl Tryz.ntmps12 Tryz.results12 (by simp) ?_
  refine AW.sr trivial ?_
  refine AW.seq_j (fun s' σ' => σ' = Hp.empty ∧ s'.t 1 = .sl (evs.map encEv) ∧ s'.t 2 = .lp 2 0 ∧ s'.l 2 = some (encNd n) ∧ n.shape = 0) ?_ ?_
  · refine AW.seq_k fun K2 h2 => ?_
    refine AW.reg0 ?_
    refine S.one @nd ?_
    refine S.cl @nd (rShape_spec _ hn ho) ?_
    all_goals refine S.one @nd ?_
    all_goals (refine S.nil ?_; simp only [ze, simprocAttr, nd]; apply_assumption)
    all_goals refine AW.sr trivial ?_
    refine AW.cd (n.shape != 0) (fun hb => ?_) (fun hb => ?_)
    · have hb : n.shape ≠ 0 := by simpa using hb
      refine AW.sr trivial ?_
      refine AW.ret ?_
      simp only [zs, simprocAttr]
      all_goals ((try and_intros) <;> first | rfl | assumption | (((rw [nodeOut, if_neg hb]) <;> rfl)))
    · have hb : n.shape = 0 := by simpa using hb
      refine AW.skip ?_
      simp only [zs, simprocAttr]
      all_goals ((try and_intros) <;> first | rfl | assumption | (exact hb))
  rintro s σ ⟨rfl, e1, e2, l2, hsh⟩
  refine AW.seq_j (fun s' σ' => σ' = Hp.empty ∧ s'.t 1 = .sl (evs.map encEv) ∧ s'.t 2 = .lp 2 0 ∧ s'.l 2 = some (encNd n) ∧ n.binds = 0) ?_ ?_
  · refine AW.seq_k fun K5 h5 => ?_
    refine AW.reg0 ?_
    refine S.one (J4 e1 e2 l2 @nd) ?_
    have q1q := J4 e1 e2 l2 @nd
    refine S.cl q1q (rBinds_spec _ hn) ?_
    all_goals refine S.one q1q ?_
    all_goals (refine S.nil ?_; simp only [ze, simprocAttr, q1q]; apply_assumption)
    all_goals refine AW.sr trivial ?_
    refine AW.cd (n.binds != 0) (fun hb => ?_) (fun hb => ?_)
    · have hb : n.binds ≠ 0 := by simpa using hb
      refine AW.sr trivial ?_
      refine AW.ret ?_
      simp only [zs, simprocAttr]
      all_goals ((try and_intros) <;> first | rfl | assumption | (((rw [nodeOut, if_pos hsh, if_neg hb]) <;> rfl)))
    · have hb : n.binds = 0 := by simpa using hb
      refine AW.skip ?_
      simp only [zs, simprocAttr]
      all_goals ((try and_intros) <;> first | rfl | assumption | (exact hb))
  rintro s σ ⟨rfl, e1, e2, l2, hbi⟩
  refine AW.seq_j (fun s' σ' => σ' = Hp.empty ∧ s'.t 1 = .sl (evs.map encEv) ∧ s'.t 2 = .lp 2 0 ∧ s'.l 2 = some (encNd n) ∧ ¬ 64 < evs.length) ?_ ?_
  · have q1 : ((evs.length : Int) > 64) = (64 < evs.length) := by rw [eq_iff_iff]; omega
    refine AW.sr (J5 e1 e2 l2 q1 @List.length_map.{0,0}) ?_
    refine AW.cd (decide (64 < evs.length)) (fun hb => ?_) (fun hb => ?_)
    · have hb := of_decide_eq_true hb
      refine AW.sr trivial ?_
      refine AW.ret ?_
      simp only [zs, simprocAttr]
      all_goals ((try and_intros) <;> first | rfl | assumption | (((rw [nodeOut, if_pos hsh, if_pos hbi, if_pos hb]) <;> rfl)))
    · have hb := of_decide_eq_false hb
      refine AW.skip ?_
      simp only [zs, simprocAttr]
      all_goals ((try and_intros) <;> first | rfl | assumption | (exact hb))
  rintro s σ ⟨rfl, e1, e2, l2, h64⟩
  refine AW.seq_j (fun s' σ' => σ' = Hp.empty ∧ s'.t 1 = .sl (evs.map encEv) ∧ s'.t 2 = .lp 2 0 ∧ s'.l 2 = some (encNd n) ∧ evsBad evs = false) ?_ ?_
  · refine AW.sr trivial ?_
    refine AW.block ?_   -- 0
    refine AW.loop (fun m s σ => σ = Hp.empty ∧ ∃ i : Nat, m + i = evs.length ∧ s.t 1 = .sl (evs.map encEv) ∧ s.t 2 = .lp 2 0 ∧ s.l 2 = some (encNd n) ∧ s.t 8 = .c (.int .i64 (i : Nat)) ∧ (List.range i).any (badAt evs) = false) evs.length ?_ ?_
    · refine ⟨rfl, 0, by simp, ?_⟩
      simp only [zs, simprocAttr, e1, e2, l2]
      all_goals exact fn1
    rintro m s σ ⟨rfl, i, hm, e1, e2, l2, e8, hp⟩
    refine AW.seq_k fun K11 h11 => ?_
    all_goals refine AW.sr (J3 e1 e8 @List.length_map.{0,0}) ?_
    refine AW.cd (decide (i < evs.length)) (fun hi => ?_) (fun hi => ?_)
    · have hi := of_decide_eq_true hi
      have hg := evs_at hi
      have hxm := evs_mem hi
      have hw := wadd1 (a := i) (by omega)
      have hbad : ∀ b : Bool, badAt evs i = true → nodeOut n evs (n.ref evs) = ([], 110) := fun _ hb => by
        rw [nodeOut, if_pos hsh, if_pos hbi, if_neg h64, if_pos (show evsBad evs = true from range_any hi hb)]
      generalize hx : evs.getD i noEv = x at hg hxm
      have hxo := heo x hxm
      refine AW.skip ?_
      simp only [zs, simprocAttr]
      all_goals apply_assumption
      refine AW.seq_k fun K13 h13 => ?_
      refine AW.block ?_   -- 1
      refine AW.seq_j (fun s' σ' => σ' = Hp.empty ∧ s'.t 1 = .sl (evs.map encEv) ∧ s'.t 2 = .lp 2 0 ∧ s'.l 2 = some (encNd n) ∧ s'.t 8 = .c (.int .i64 (i : Nat)) ∧ evErr x = 0) ?_ ?_
      · refine AW.seq_k fun K14 h14 => ?_
        refine AW.reg0 ?_
        iterate 4 refine S.one (J8 e1 e2 l2 e8 hi hg @encEv.eq_1 @List.length_map.{0,0}) ?_
        have q2q := J8 e1 e2 l2 e8 hi hg @encEv.eq_1 @List.length_map.{0,0}
        refine S.cl q2q (rcheck_ev x hxo) ?_
        all_goals refine S.one q2q ?_
        all_goals (refine S.nil ?_; simp only [ze, simprocAttr, q2q]; apply_assumption)
        refine AW.cd (evErr x != 0) (fun hb => ?_) (fun hb => ?_)
        · have hb : ¬ evErr x = 0 := by simpa using hb
          refine AW.sr trivial ?_
          refine AW.ret ?_
          simp only [zs, simprocAttr]
          all_goals ((try and_intros) <;> first | rfl | assumption | (((rw [hbad true (by rw [badAt, hx]; simp [hb])]) <;> rfl)))
        · have hb : evErr x = 0 := by simpa using hb
          refine AW.skip ?_
          simp only [zs, simprocAttr]
          all_goals ((try and_intros) <;> first | rfl | assumption | (exact hb))
      rintro s σ ⟨rfl, e1, e2, l2, e8, he0⟩
      all_goals refine AW.sr trivial ?_
      refine AW.block ?_   -- 2
      refine AW.loop (fun m2 s σ => σ = Hp.empty ∧ ∃ j : Nat, m2 + j = i ∧ s.t 1 = .sl (evs.map encEv) ∧ s.t 2 = .lp 2 0 ∧ s.l 2 = some (encNd n) ∧ s.t 8 = .c (.int .i64 (i : Nat)) ∧ s.t 9 = .c (.int .i64 (j : Nat)) ∧ ((List.range j).any fun j => sameEv (evs.getD j noEv) (evs.getD i noEv)) = false) i ?_ ?_
      · refine ⟨rfl, 0, by simp, ?_⟩
        simp only [zs, simprocAttr, e1, e2, l2, e8]
        all_goals exact fn1
      rintro m2 s σ ⟨rfl, j, hm2, e1, e2, l2, e8, e9, hq⟩
      refine AW.seq_k fun K17 h17 => ?_
      all_goals refine AW.sr (J2 e8 e9) ?_
      refine AW.cd (decide (j < i)) (fun hj => ?_) (fun hj => ?_)
      · have hj := of_decide_eq_true hj
        have hjl : j < evs.length := by omega
        have hgj := evs_at hjl
        have hw2 := wadd1 (a := j) (by omega)
        generalize hy : evs.getD j noEv = y at hgj
        refine AW.skip ?_
        simp only [zs, simprocAttr]
        all_goals apply_assumption
        refine AW.seq_k fun K19 h19 => ?_
        refine AW.block ?_   -- 3
        refine AW.seq_k fun K20 h20 => ?_
        refine AW.dv { sd := fun _ => false, eqk := eqTab } [(0,0),(1,0),(2,0),(3,0),(5,0),(6,0),(7,0),(8,0),(4,1),(9,1),(10,0)] ?_ eqTab_ok
        have q3q := J9 e1 e8 e9 hi hjl hg hgj @encEv.eq_1 @List.length_map.{0,0}
        iterate 8 refine D.one q3q ?_
        iterate 2 refine D.one q3q ?_
        refine D.one (J12 @eqk45 @fitsAll.eq_1 @fitsAll.eq_2 @fitsAll.eq_3 @SK.fits.eq_1 @SK.fits.eq_2 @SK.fits.eq_3 @SK.fits.eq_4 @cellsEq.eq_1 @cellsEq.eq_2 @cellsEq.eq_3 (J12 @cellEq.eq_1 @cellEq.eq_2 @cellEq.eq_3 @cellEq.eq_4 e1 e8 e9 hi hjl hg hgj (J2 @encEv.eq_1 @List.length_map.{0,0}))) ?_
        (refine D.nil ?_; apply_assumption)
        refine AW.cond (b := sameEv y x) (by simp [ev, sameEv]) (fun hc => ?_) (fun hc => ?_)
        · have hcl : clashAt evs i = true := range_any (p := fun j => sameEv (evs.getD j noEv) (evs.getD i noEv)) hj (by rw [hx, hy]; exact hc)
          refine AW.sr trivial ?_
          refine AW.ret ?_
          simp only [zs, simprocAttr]
          all_goals ((try and_intros) <;> first | rfl | assumption | (((rw [hbad true (by rw [badAt, hcl]; simp)]) <;> rfl)))
        · refine AW.skip ?_
          simp only [zs, simprocAttr]
          all_goals apply_assumption
          have q4q := J6 e9 hw2 e1 e2 l2 e8
          refine AW.reg0 (S.rn q4q ?_)
          simp only [ze, simprocAttr, q4q]
          refine ⟨m2 - 1, by omega, j + 1, by omega, ?_⟩
          all_goals ((try and_intros) <;> first | rfl | assumption | ((rw [range_anyS, hq, hx, hy, hc]; rfl)))
      · have hj := of_decide_eq_false hj
        have hji : j = i := by omega
        rw [hji] at hq
        refine AW.exit ?_
        simp only [zs, simprocAttr]
        all_goals apply_assumption
        have q5q := J5 e8 hw e1 e2 l2
        refine AW.reg0 (S.rn q5q ?_)
        simp only [ze, simprocAttr, q5q]
        refine ⟨m - 1, by omega, i + 1, by omega, ?_⟩
        all_goals ((try and_intros) <;> first | rfl | assumption | ((rw [range_anyS, hp, badAt, clashAt, hq, hx, he0]; rfl)))
    · have hi := of_decide_eq_false hi
      have hil : i = evs.length := by omega
      rw [hil] at hp
      refine AW.exit ?_
      simp only [zs, simprocAttr]
      all_goals ((try and_intros) <;> first | rfl | assumption | (exact hp))
  rintro s σ ⟨rfl, e1, e2, l2, hbad⟩
  obtain ⟨hz, hdist⟩ := evsBad_no hbad
  have hevs : okEvs evs := ⟨by omega, heo, fun e he => few_of (hz e he), fun e he => time_in (hz e he)⟩
  have hnode := rnodeP_spec hevs n hn ho
  have hout : nodeOut n evs (n.ref evs) = optO (n.ref evs) := by
    rw [nodeOut, if_pos hsh, if_pos hbi, if_neg h64, if_neg (by rw [hbad]; exact Bool.false_ne_true)]
  cases hr : n.ref evs with
  | none =>
    rw [hr] at hnode hout
    simp only [nodeV] at hnode
    refine AW.seq_k fun K22 h22 => ?_
    refine AW.reg0 ?_
    iterate 2 refine S.one (J4 e1 e2 l2 @nd) ?_
    have q6q := J4 e1 e2 l2 @nd
    refine S.cl q6q hnode ?_
    all_goals iterate 5 refine S.one q6q ?_
    all_goals (refine S.nil ?_; simp only [ze, simprocAttr, q6q]; apply_assumption)
    refine AW.seq_k fun K23 h23 => ?_
    all_goals refine AW.sr trivial ?_
    refine AW.cd true (fun _ => ?_) (fun h => by cases h)
    all_goals refine AW.sr trivial ?_
    refine AW.ret ?_
    all_goals simp only [zs, simprocAttr]
    all_goals ((try and_intros) <;> first | rfl | assumption | (((rw [hout]) <;> rfl)))
  | some l =>
    rw [hr] at hnode hout
    simp only [nodeV] at hnode
    refine AW.seq_k fun K26 h26 => ?_
    refine AW.reg0 ?_
    iterate 2 refine S.one (J4 e1 e2 l2 @nd) ?_
    have q7q := J4 e1 e2 l2 @nd
    refine S.cl q7q hnode ?_
    all_goals iterate 5 refine S.one q7q ?_
    all_goals (refine S.nil ?_; simp only [ze, simprocAttr, q7q]; apply_assumption)
    refine AW.seq_k fun K27 h27 => ?_
    all_goals refine AW.sr trivial ?_
    refine AW.cd false (fun h => by cases h) (fun _ => ?_)
    refine AW.skip ?_
    all_goals simp only [zs, simprocAttr]
    all_goals apply_assumption
    all_goals refine AW.sr trivial ?_
    refine AW.ret ?_
    all_goals simp only [zs, simprocAttr]
    all_goals ((try and_intros) <;> first | rfl | assumption | (((rw [hout]) <;> rfl)))
end Go.Abs.M
namespace Go.Proofs
open Go.Shelf
def Tryz.sort102_ren : Go.Shelf.Ren := ⟨fun | 6 => 102 | 15 => 132 | 14 => 131 | 28 => 165 | 29 => 166 | 20 => 157 | 21 => 158 | 22 => 159 | 23 => 160 | 24 => 161 | 25 => 162 | 26 => 163 | 27 => 164 | 46 => 179 | 47 => 180 | 48 => 181 | 49 => 182 | 50 => 183 | 57 => 198 | n => n, fun | 22 => 29 | 24 => 40 | 25 => 126 | 3 => 3 | 39 => 151 | 0 => 0 | 53 => 176 | 55 => 113 | 4 => 4 | 46 => 170 | 45 => 169 | 50 => 161 | 5 => 5 | 9 => 9 | 66 => 188 | 70 => 192 | 76 => 203 | 77 => 204 | n => n, fun | n => n⟩
theorem Tryz.sort102 : Go.Proofs.SlLaysF0.n6 Tryz.prog Tryz.sort102_ren := {
 mixed := by kernel_rfl
 f6 := ⟨Tryz.f102.name, by decide, Tryz.func102.trans (congrArg some (by kernel_rfl))⟩
 f14 := ⟨Tryz.f131.name, by decide, Tryz.func131.trans (congrArg some (by kernel_rfl))⟩
 f15 := Tryz.func132.trans (congrArg some (by kernel_rfl))
 f20 := ⟨Tryz.f157.name, by decide, Tryz.func157.trans (congrArg some (by kernel_rfl))⟩
 f21 := ⟨Tryz.f158.name, by decide, Tryz.func158.trans (congrArg some (by kernel_rfl))⟩
 f22 := ⟨Tryz.f159.name, by decide, Tryz.func159.trans (congrArg some (by kernel_rfl))⟩
 f23 := ⟨Tryz.f160.name, by decide, Tryz.func160.trans (congrArg some (by kernel_rfl))⟩
 f24 := ⟨Tryz.f161.name, by decide, Tryz.func161.trans (congrArg some (by kernel_rfl))⟩
 f25 := ⟨Tryz.f162.name, by decide, Tryz.func162.trans (congrArg some (by kernel_rfl))⟩
 f26 := ⟨Tryz.f163.name, by decide, Tryz.func163.trans (congrArg some (by kernel_rfl))⟩
 f27 := ⟨Tryz.f164.name, by decide, Tryz.func164.trans (congrArg some (by kernel_rfl))⟩
 f28 := Tryz.func165.trans (congrArg some (by kernel_rfl))
 f29 := Tryz.func166.trans (congrArg some (by kernel_rfl))
 f46 := ⟨Tryz.f179.name, by decide, Tryz.func179.trans (congrArg some (by kernel_rfl))⟩
 f47 := Tryz.func180.trans (congrArg some (by kernel_rfl))
 f48 := Tryz.func181.trans (congrArg some (by kernel_rfl))
 f49 := ⟨Tryz.f182.name, by decide, Tryz.func182.trans (congrArg some (by kernel_rfl))⟩
 f50 := ⟨Tryz.f183.name, by decide, Tryz.func183.trans (congrArg some (by kernel_rfl))⟩
 f57 := ⟨Tryz.f198.name, by decide, Tryz.func198.trans (congrArg some (by kernel_rfl))⟩
 t0 := Tryz.underlying0
 a0 := Tryz.isAgg0
 z0 := Tryz.sizeOf0
 v0 := Tryz.zeroValue0
 t3 := Tryz.underlying3
 a3 := Tryz.isAgg3
 z3 := Tryz.sizeOf3
 v3 := Tryz.zeroValue3
 t4 := Tryz.underlying4
 a4 := Tryz.isAgg4
 z4 := Tryz.sizeOf4
 v4 := Tryz.zeroValue4
 t5 := Tryz.underlying5
 a5 := Tryz.isAgg5
 z5 := Tryz.sizeOf5
 v5 := Tryz.zeroValue5
 t9 := Tryz.underlying9
 a9 := Tryz.isAgg9
 z9 := Tryz.sizeOf9
 v9 := Tryz.zeroValue9
 t22 := Tryz.underlying29
 a22 := Tryz.isAgg29
 z22 := Tryz.sizeOf29
 v22 := Tryz.zeroValue29
 t25 := Tryz.underlying126
 a25 := Tryz.isAgg126
 z25 := Tryz.sizeOf126
 v25 := Tryz.zeroValue126
 t39 := Tryz.underlying151
 a39 := Tryz.isAgg151
 z39 := Tryz.sizeOf151
 v39 := Tryz.zeroValue151
 t45 := Tryz.underlying169
 a45 := Tryz.isAgg169
 z45 := Tryz.sizeOf169
 v45 := Tryz.zeroValue169
 t46 := Tryz.underlying170
 a46 := Tryz.isAgg170
 z46 := Tryz.sizeOf170
 v46 := Tryz.zeroValue170
 t50 := Tryz.underlying161
 a50 := Tryz.isAgg161
 z50 := Tryz.sizeOf161
 v50 := Tryz.zeroValue161
 t53 := Tryz.underlying176
 a53 := Tryz.isAgg176
 z53 := Tryz.sizeOf176
 v53 := Tryz.zeroValue176
 t55 := Tryz.underlying113
 a55 := Tryz.isAgg113
 z55 := Tryz.sizeOf113
 v55 := Tryz.zeroValue113
 t66 := Tryz.underlying188
 a66 := Tryz.isAgg188
 z66 := Tryz.sizeOf188
 v66 := Tryz.zeroValue188
 t70 := Tryz.underlying192
 a70 := Tryz.isAgg192
 z70 := Tryz.sizeOf192
 v70 := Tryz.zeroValue192
 t76 := Tryz.underlying203
 a76 := Tryz.isAgg203
 z76 := Tryz.sizeOf203
 v76 := Tryz.zeroValue203
 t77 := Tryz.underlying204
 a77 := Tryz.isAgg204
 z77 := Tryz.sizeOf204
 v77 := Tryz.zeroValue204 }
end Go.Proofs
namespace Go.Abs.M
open Go Go.Abs Go.Proofs
variable [Mode]
set_option maxRecDepth 20000
def hpP (σ0 : Hp) (k : Nat) (l : List (List Bd)) : Hp := σ0.setGr k (some ((40, 1), l.map encP))
theorem sort_spec {σ : Hp} {k : Nat} {l : List (List Bd)} (hk : σ.gr k = some ((40, 1), l.map encP)) (hl : l.length < 4611686018427387904) (hlen : ∀ p ∈ l, p.length < 4611686018427387904) :
  ACalls Tryz.prog 102 [.gl k, .fn (.func 103) [] []] σ (fun v σ' => v = .tup [] ∧ ∃ l' : List (List Bd), l'.Perm l ∧ l'.Pairwise (fun a b => cmpL a b ≤ 0) ∧ σ' = hpP σ k l') := by
 have h := sortFunc_calls (P := Tryz.prog) (ρ := Tryz.sort102_ren) Tryz.sort102 (fun w => (run_isAgg (P := Tryz.prog) (w := w) ok40).trans (by rw [ag40])) (fun w => run_sizeOf (P := Tryz.prog) (w := w) sz40 (by decide)) (g := 103) (en := fun p : List Bd => V.sl (p.map encBd))
  (S := fun p => p.length < 4611686018427387904) (cf := cmpL) tri_L.flip tri_L.trans (fun a b ha _ => @compare_part (Mode.mk True) a b ha) (σ := σ) (k := k) (T := (40, 1)) (l := l) rfl hk hlen hl
 exact h
theorem same0_spec (a b : List Bd) (ha : a.length < 4611686018427387904) : PCalls Tryz.prog 105 [.agg [.sl (a.map encBd)], .agg [.sl (b.map encBd)]] (fun v => v = .c (.bool (cmpL a b == 0))) := by
 refine PCalls.intro Tryz.call105 Tryz.func105 rfl Tryz.ntmps105 Tryz.results105 (by simp) ?_
 refine AW.sr trivial ?_
 refine AW.seq_k fun K2 h2 => ?_
 refine AW.reg0 ?_
 iterate 2 refine S.one trivial ?_
 refine S.cl trivial (compare_part a b ha) ?_
 all_goals iterate 2 refine S.one trivial ?_
 all_goals (refine S.nil ?_; simp only [ze, simprocAttr]; apply_assumption)
 refine AW.ret ?_
 all_goals simp only [zs, simprocAttr]
 all_goals exact fn1
theorem keep_end (x : List Bd) : keepFrom x [] = [] := by rw [keepFrom]
theorem take_get {l : List (List Bd)} {i : Nat} (h : i < l.length) : l.take (i + 1) = l.take i ++ [l.getD i []] := by
 rw [List.take_add_one, getD_part h]; rfl
theorem take_cut {α : Type} {A B : List α} {q : Nat} (h : q ≤ A.length) : (A.take q ++ B).take q = A.take q := by
 rw [List.take_append_of_le_length (by simp; omega), List.take_take, Nat.min_self]
theorem compact_spec {σ0 : Hp} {k : Nat} (l : List (List Bd)) (hl : l.length < 4611686018427387904) (hlen : ∀ p ∈ l, p.length < 4611686018427387904) :
  ACalls Tryz.prog 104 [.gl k, .fn (.func 105) [] []] (hpP σ0 k l) (fun v σ' => ∃ k', v = .gl k' ∧ (σ0.setGr k none).gr k' = none ∧ σ' = hpP (σ0.setGr k none) k' (compactL l)) := by
 have hsame : hpP (σ0.setGr k none) k l = hpP σ0 k l := by simp [hpP]
 have hfree : (σ0.setGr k none).gr k = none := by simp
 have ho : (hpP σ0 k l).gr k = some ((40, 1), l.map encP) := by simp [hpP]
 refine ACalls.intro Tryz.call104 Tryz.func104 rfl Tryz.ntmps104 Tryz.results104 (by simp) ?_
 refine AW.sr trivial ?_
 refine AW.seq_k fun K2 h2 => ?_
 refine AW.sr (J2 ho @List.length_map.{0,0}) ?_
 refine AW.cd (decide ((l.length : Int) < 2)) (fun h2 => ?_) (fun h2 => ?_)
 ·have h2 : l.length < 2 := by have := of_decide_eq_true h2; omega
  have hc : compactL l = l := by
   match l, h2 with
   | [], _ => rfl
   | [x], _ => rw [compactL, keep_end]
  refine AW.sr trivial ?_
  refine AW.ret ?_
  simp only [zs, simprocAttr]
  exact ⟨k, rfl, hfree, by rw [hc, hsame]⟩
 have h2 : 2 ≤ l.length := by have := of_decide_eq_false h2; omega
 refine AW.skip ?_
 all_goals simp only [zs, simprocAttr]
 all_goals apply_assumption
 refine AW.seq_k fun K5 h5 => ?_
 all_goals refine AW.sr trivial ?_
 refine AW.block ?_   -- 0
 refine AW.loop (fun m s σ => ∃ i : Nat, m + i = l.length + 1 ∧ 1 ≤ i ∧ i ≤ l.length ∧ s.t 0 = .gl k ∧ s.t 1 = .fn (.func 105) [] [] ∧ s.t 5 = .c (.int .i64 (i : Nat)) ∧ σ = hpP σ0 k l ∧ compactL l = l.take i ++ keepFrom (l.getD (i - 1) []) (l.drop i)) l.length ?_ ?_
 ·refine ⟨1, by omega, by omega, by omega, ?_⟩
  simp only [zs, simprocAttr]
  all_goals ((try and_intros) <;> first | rfl | assumption | ((match l, h2 with | x :: r, _ => rfl)))
 rintro m s σ ⟨i, hm, hi1, hil, e0, e1, e5, rfl, hp⟩
 refine AW.seq_k fun K7 h7 => ?_
 all_goals refine AW.sr (J4 ho e0 e5 @List.length_map.{0,0}) ?_
 refine AW.cd (decide (i < l.length)) (fun hi => ?_) (fun hi => ?_)
 ·have hi := of_decide_eq_true hi
  have hi2 : i - 1 < l.length := by omega
  obtain ⟨x, hx, hxm, hg, hd, hgx⟩ := part_get hi
  obtain ⟨y, hy, hym, hgy, hdy, hgyx⟩ := part_get hi2
  have hxl := hlen x hxm
  have hw := wadd1 (a := i) (by omega)
  have hws : IntKind.i64.wrap ((i : Int) - 1) = ((i - 1 : Nat) : Int) := by rw [wrap_small _ (by omega) (by omega)]; omega
  rw [hd, hgyx, keepFrom] at hp
  refine AW.skip ?_
  simp only [zs, simprocAttr]
  all_goals apply_assumption
  refine AW.seq_k fun K9 h9 => ?_
  refine AW.block ?_   -- 1
  refine AW.seq_j (fun s' σ' => σ' = hpP σ0 k l ∧ s'.t 0 = .gl k ∧ s'.t 1 = .fn (.func 105) [] [] ∧ s'.t 5 = .c (.int .i64 (i : Nat)) ∧ s'.t 28 = .c (.bool (cmpL x y == 0))) ?_ ?_
  ·generalize hsg : hpP σ0 k l = σ1 at ho ⊢
   refine AW.draw2 (T := { sd := fun _ => false }) (fun _ _ h => by cases h) mixedO [(0, 0), (1, 0), (2, 0), (3, 0), (5, 0), (6, 0), (7, 0), (8, 0)] 4 9 [(10, 2)] #[true, true, true, true, false, true, true, true, true, false, false] rfl (by kernel_rfl) (by kernel_rfl) (by kernel_rfl) (by kernel_rfl) (by kernel_rfl) ?_
   all_goals have q1q := J11 ho e0 e1 e5 hi hi2 hg hgy hws @encP.eq_1 @List.length_map.{0,0}
   all_goals iterate 8 refine D.one q1q ?_
   all_goals refine D.nil ⟨?_, ?_⟩
   all_goals iterate 2 refine D.one q1q ?_
   all_goals have q2q := J11 ho e0 e1 e5 hi hi2 hg hgy hws @encP.eq_1 @List.length_map.{0,0}
   all_goals refine D.cl q2q (same0_spec x y hxl) ?_
   all_goals refine D.nil ?_
   all_goals simp only [ze, simprocAttr, q2q]
   all_goals exact ⟨e0, e1, e5, rfl⟩
  rintro s2 σ ⟨rfl, e0, e1, e5, e28⟩
  refine AW.cond (b := cmpL x y == 0) e28 (fun hc => ?_) (fun hc => ?_)
  ·have hc : cmpL x y = 0 := by simpa using hc
   rw [if_pos hc] at hp
   have z1 : (∀ (e : List V), e ∈ l.map encP → e.length = 1) = True := eq_true (len_part l)
   have hp0 : 0 < l.length := by omega
   refine AW.sr (J8 ho e0 e5 z1 hp0 hi (Nat.le_of_lt hi) @List.length_map.{0,0}) ?_
   refine AW.seq_k fun K11 h11 => ?_
   refine AW.sr trivial ?_
   refine AW.block ?_   -- 2
   refine AW.loop (fun m2 s σ => ∃ (q j : Nat) (es : List (List Bd)), m2 + j = l.length - i + 1 ∧ 1 ≤ j ∧ j ≤ l.length - i ∧ q < i + j ∧ es.length = l.length ∧ es.drop (i + j - 1) = l.drop (i + j - 1) ∧ compactL l = es.take q ++ keepFrom (l.getD (i + j - 1) []) (l.drop (i + j)) ∧ s.t 0 = .gl k ∧ s.t 1 = .fn (.func 105) [] [] ∧ s.t 5 = .c (.int .i64 (q : Nat)) ∧ s.t 6 = .gv k i (l.length - i) ∧ s.t 7 = .c (.int .i64 (j : Nat)) ∧ σ = hpP σ0 k es) (l.length - i) ?_ ?_
   ·refine ⟨i, 1, l, by omega, by omega, by omega, by omega, rfl, rfl, by rw [hp, Nat.add_sub_cancel, hgx], ?_⟩
    simp only [zs, simprocAttr, e0, e1, e5]
    all_goals exact fn1
   rintro m2 s σ ⟨q, j, es, hm2, hj1, hjn, hqi, hel, hed, hq, e0, e1, e5, e6, e7, rfl⟩
   have ho2 : (hpP σ0 k es).gr k = some ((40, 1), es.map encP) := by simp [hpP]
   refine AW.seq_k fun K13 h13 => ?_
   all_goals refine AW.sr (J2 e6 e7) ?_
   refine AW.cd (decide (j < l.length - i)) (fun hj => ?_) (fun hj => ?_)
   ·have hj := of_decide_eq_true hj
    have hjm : j - 1 < l.length - i := by omega
    have ha1 : i + j < l.length := by omega
    have ha2 : i + j - 1 < l.length := by omega
    obtain ⟨x, hx, hxm, hg, hd, hgx⟩ := part_get ha1
    obtain ⟨y, hy, hym, hgy, hdy, hgyx⟩ := part_get ha2
    have hxl := hlen x hxm
    have hex : es[i + j]? = some x := by
     have := congrArg (fun t : List (List Bd) => t[1]?) hed
     simp only [List.getElem?_drop] at this
     rw [show i + j - 1 + 1 = i + j by omega] at this
     rw [this, hx]
    have hey : es[i + j - 1]? = some y := by
     have := congrArg (fun t : List (List Bd) => t[0]?) hed
     simp only [List.getElem?_drop, Nat.add_zero] at this
     rw [this, hy]
    have hgx2 : (es.map encP).getD (i + j) [] = encP x := by rw [List.getD_eq_getElem?_getD, List.getElem?_map, hex]; rfl
    have hgy2 : (es.map encP).getD (i + (j - 1)) [] = encP y := by rw [show i + (j - 1) = i + j - 1 by omega, List.getD_eq_getElem?_getD, List.getElem?_map, hey]; rfl
    have hwj := wadd1 (a := j) (by omega)
    have hwq := wadd1 (a := q) (by omega)
    have hws : IntKind.i64.wrap ((j : Int) - 1) = ((j - 1 : Nat) : Int) := by rw [wrap_small _ (by omega) (by omega)]; omega
    have hfit : i + (l.length - i) ≤ es.length := by omega
    have hin1 : i + j < es.length := by omega
    have hin2 : i + (j - 1) < es.length := by omega
    have hin3 : q < es.length := by omega
    rw [hgyx, hd, keepFrom] at hq
    have hdr : es.drop (i + j) = l.drop (i + j) := by
     have := congrArg (List.drop 1) hed
     rwa [List.drop_drop, List.drop_drop, show i + j - 1 + 1 = i + j by omega] at this
    have hgq : ((es.map encP).getD q []).length = 1 := by rw [getD_map hin3]; rfl
    refine AW.skip ?_
    all_goals simp only [zs, simprocAttr]
    all_goals apply_assumption
    refine AW.seq_j (fun s' σ' => ∃ (q' : Nat) (es' : List (List Bd)), q' < i + (j + 1) ∧ es'.length = l.length ∧ es'.drop (i + j) = l.drop (i + j) ∧ compactL l = es'.take q' ++ keepFrom x (l.drop (i + j + 1)) ∧ s'.t 0 = .gl k ∧ s'.t 1 = .fn (.func 105) [] [] ∧ s'.t 5 = .c (.int .i64 (q' : Nat)) ∧ s'.t 6 = .gv k i (l.length - i) ∧ s'.t 7 = .c (.int .i64 (j : Nat)) ∧ σ' = hpP σ0 k es') ?_ ?_
    ·refine AW.block ?_   -- 3
     refine AW.seq_j (fun s' σ' => σ' = hpP σ0 k es ∧ s'.t 0 = .gl k ∧ s'.t 1 = .fn (.func 105) [] [] ∧ s'.t 5 = .c (.int .i64 (q : Nat)) ∧ s'.t 6 = .gv k i (l.length - i) ∧ s'.t 7 = .c (.int .i64 (j : Nat)) ∧ s'.t 49 = .c (.bool (!(cmpL x y == 0)))) ?_ ?_
     ·generalize hsg : hpP σ0 k es = σ1 at ho2 ⊢
      refine AW.draw2 (T := { sd := fun _ => false }) (fun _ _ h => by cases h) mixedO [(0, 0), (1, 0), (2, 0), (3, 0), (5, 0), (6, 0), (7, 0), (8, 0)] 4 9 [(10, 2), (11, 0)] #[true, true, true, true, false, true, true, true, true, false, false, false] rfl (by kernel_rfl) (by kernel_rfl) (by kernel_rfl) (by kernel_rfl) (by kernel_rfl) ?_
      all_goals have q3q := J12 ho2 e0 e1 e5 e6 e7 hj hjm hfit hin1 hin2 (J5 hgx2 hgy2 hws @encP.eq_1 @List.length_map.{0,0})
      all_goals iterate 8 refine D.one q3q ?_
      all_goals refine D.nil ⟨?_, ?_⟩
      all_goals iterate 2 refine D.one q3q ?_
      all_goals have q4q := J12 ho2 e0 e1 e5 e6 e7 hj hjm hfit hin1 hin2 (J5 hgx2 hgy2 hws @encP.eq_1 @List.length_map.{0,0})
      all_goals refine D.cl q4q (same0_spec x y hxl) ?_
      all_goals refine D.one q4q ?_
      all_goals refine D.nil ?_
      all_goals simp only [ze, simprocAttr, q4q]
      all_goals exact ⟨e0, e1, e5, e6, e7, rfl⟩
     rintro s2 σ ⟨rfl, e0, e1, e5, e6, e7, e49⟩
     refine AW.cond (b := !(cmpL x y == 0)) e49 (fun hc => ?_) (fun hc => ?_)
     ·have hc : ¬ cmpL x y = 0 := by simpa using hc
      rw [if_neg hc] at hq
      unfold hpP at ho2 ⊢
      refine AW.sr (J12 ho2 e0 e1 e5 e6 e7 hj hfit hin1 hin3 hgx2 (J4 hgq @encP.eq_1 @List.length_map.{0,0} @List.length_set.{0})) ?_
      refine AW.reg0 (S.rn (J2 e5 hwq) ?_)
      simp only [ze, simprocAttr, e5, hwq]
      refine ⟨q + 1, es.set q x, by omega, by simp [hel], ?_, ?_, e0, e1, rfl, e6, e7, ?_⟩
      ·rw [List.drop_set_of_lt (by omega)]; exact hdr
      ·rw [hq, List.take_set, take_get hin3, List.set_append_right _ _ (by simp; omega)]
       simp [Nat.min_eq_left (Nat.le_of_lt hin3), List.append_assoc]
      ·simp [encP, List.map_set, List.getElem?_eq_getElem hin3]
     ·have hc : cmpL x y = 0 := by simpa using hc
      rw [if_pos hc] at hq
      refine AW.skip ?_
      simp only [zs, simprocAttr]
      exact ⟨q, es, by omega, hel, hdr, hq, e0, e1, e5, e6, e7, rfl⟩
    rintro s2 σ ⟨q', es', hq', hel', hed', hp', e0, e1, e5, e6, e7, rfl⟩
    all_goals refine AW.reg0 (S.rn (J2 e7 hwj) ?_)
    all_goals simp only [ze, simprocAttr, e7, hwj]
    refine ⟨m2 - 1, by omega, q', j + 1, es', by omega, by omega, by omega, hq', hel', by rw [show i + (j + 1) - 1 = i + j by omega]; exact hed', ?_, e0, e1, e5, e6, rfl, rfl⟩
    rw [hp', show i + (j + 1) - 1 = i + j by omega, hgx]; rfl
   ·have hj := of_decide_eq_false hj
    refine AW.exit ?_
    simp only [zs, simprocAttr]
    all_goals apply_assumption
    rw [List.drop_of_length_le (by omega), keep_end, List.append_nil] at hq
    have z2 : (∀ (e : List V), e ∈ es.map encP → e.length = 1) = True := eq_true (len_part es)
    have hp1 : 0 < es.length := by omega
    have hqe : q ≤ es.length := by omega
    have hqs : q + (es.length - q) ≤ es.length := by omega
    refine AW.sr (J8 ho2 e0 e5 z2 hp1 hqe hqs @List.length_map.{0,0}) ?_
    refine AW.seq_k fun K17 h17 => ?_
    refine AW.reg0 ?_
    iterate 2 refine S.one (J2 e0 e5) ?_
    (refine S.g rfl rfl fun Y Z => ?_; simp only [zz, simprocAttr, -Int.reduceNatCast', -Int.reduceToNat, tt, e0, e5]; refine ⟨by simp; omega, fun k1 hk1 => ?_⟩ <;> (refine Z _ _ ?_; clear Z Y))
    all_goals refine S.one (J2 e0 e5) ?_
    all_goals (refine S.nil ?_; simp only [ze, simprocAttr, e0, e5]; apply_assumption)
    refine AW.ret ?_
    all_goals simp only [zs, simprocAttr]
    refine ⟨k1, rfl, ?_, ?_⟩
    ·by_cases e : k1 = k
     ·simp [e]
     ·simpa [hpP, e] using hk1
    ·rw [hq, List.append_assoc, take_cut (by simp; omega)]
     simp [hpP]
  ·have hc : ¬ cmpL x y = 0 := by simpa using hc
   rw [if_neg hc] at hp
   refine AW.skip ?_
   simp only [zs, simprocAttr]
   all_goals apply_assumption
   refine AW.reg0 (S.rn (J2 e5 hw) ?_)
   simp only [ze, simprocAttr, e5, hw]
   have hp2 : compactL l = l.take (i + 1) ++ keepFrom (l.getD (i + 1 - 1) []) (l.drop (i + 1)) := by
    rw [hp, take_get hi, hgx, Nat.add_sub_cancel, hgx, List.append_assoc]; rfl
   refine ⟨m - 1, by omega, i + 1, by omega, by omega, by omega, ?_⟩
   all_goals ((try and_intros) <;> first | rfl | assumption | (exact hp2))
 ·have hi := of_decide_eq_false hi
  refine AW.exit ?_
  simp only [zs, simprocAttr]
  all_goals apply_assumption
  rw [List.drop_of_length_le (by omega), keep_end, List.append_nil, List.take_of_length_le (by omega)] at hp
  refine AW.sr e0 ?_
  refine AW.ret ?_
  simp only [zs, simprocAttr]
  exact ⟨k, rfl, hfree, by rw [hp, hsame]⟩
def matchB (p : Pat) (l : List Bd) : Bool := spanB p l && p.conds.all (condB l)
def allOut (p : Pat) (o : List (List Bd) × Int) : List (List Bd) × Int := if patErr p = 0 then (if o.2 = 0 then (o.1.filter (matchB p), 0) else ([], o.2)) else ([], patErr p)
def AccP (l : List (List Bd)) (v : V) (σ : Hp) : Prop := (v = .c (.slice none 0 0) ∧ l = [] ∧ σ = Hp.empty) ∨ ∃ k, v = .gl k ∧ σ = hpP Hp.empty k l
theorem nodeOut_ok {n : Nd} {evs : List Ev} (ho : n.ok) (heo : ∀ e ∈ evs, okE e) (h : (nodeOut n evs (n.ref evs)).2 = 0) : (nodeOut n evs (n.ref evs)).1.length ≤ 4096 ∧ ∀ x ∈ (nodeOut n evs (n.ref evs)).1, okQ x := by
 rw [nodeOut] at h ⊢
 split at h
 ·rename_i h1
  split at h
  ·rename_i h2
   split at h
   ·cases h
   ·rename_i h3
    split at h
    ·cases h
    ·rename_i h4
     rw [if_pos h1, if_pos h2, if_neg h3, if_neg h4]
     obtain ⟨hz, _⟩ := evsBad_no (by simpa using h4)
     cases hr : n.ref evs with
     | none => rw [hr] at h; cases h
     | some l => exact Nd.ref_okQ ⟨by omega, heo, fun e he => few_of (hz e he), fun e he => time_in (hz e he)⟩ n ho l hr
  ·rename_i h2; exact absurd h h2
 ·rename_i h1; exact absurd h h1
theorem within_in {p : Pat} (h : patErr p = 0) : inI64 p.within := by
 unfold patErr at h
 split at h
 ·cases h
 ·rename_i k
  simp only [patOwn, Bool.or_eq_true, not_or, decide_eq_true_eq] at k
  unfold inI64; omega
theorem rAllP_spec (p : Pat) (hp : okPat p) (evs : List Ev) (hel : evs.length < 4611686018427387904) (heo : ∀ e ∈ evs, okE e) : PCalls Tryz.prog 29 [.agg (encPat p), .sl (evs.map encEv)] (fun v => v = resP (allOut p (nodeOut p.node evs (p.node.ref evs)))) := by
 have hE := (encNd_eq p.node).symm
 have hnode := rNode_spec p.node hp.small hp.ok evs hel heo
 have hno := nodeOut_ok hp.ok heo (n := p.node)
 generalize nodeOut p.node evs (p.node.ref evs) = o at hnode hno ⊢
 obtain ⟨l, e⟩ := o
 simp only [resP] at hnode
 have hno : e = 0 → l.length ≤ 4096 ∧ ∀ x ∈ l, okQ x := hno
 have hP : [V.c (.string p.name), .c (.int .i64 p.within), .c (.int .i64 p.node.kind), .c (.string p.node.var), .c (.string p.node.type), .sl (p.node.tests.map encC), .sl (p.node.kids.map encNd), .sl (p.conds.map encC)] = encPat p := rfl
 refine PCalls.intro Tryz.call29 Tryz.func29 rfl Tryz.ntmps29 Tryz.results29 (by simp) ?_
 refine AW.sr @encPat.eq_1 ?_
 refine AW.seq_j (fun s' σ' => σ' = Hp.empty ∧ s'.t 1 = .sl (evs.map encEv) ∧ s'.t 2 = .lp 2 0 ∧ s'.l 2 = some (encPat p) ∧ patErr p = 0) ?_ ?_
 ·refine AW.seq_k fun K2 h2 => ?_
  refine AW.reg0 ?_
  refine S.one @encPat.eq_1 ?_
  refine S.cl @encPat.eq_1 (rPattern_spec p hp) ?_
  all_goals refine S.one @encPat.eq_1 ?_
  all_goals (refine S.nil ?_; simp only [ze, simprocAttr, encPat]; apply_assumption)
  all_goals refine AW.sr trivial ?_
  refine AW.cd (patErr p != 0) (fun hb => ?_) (fun hb => ?_)
  ·have hb : patErr p ≠ 0 := by simpa using hb
   refine AW.sr trivial ?_
   refine AW.ret ?_
   simp only [zs, simprocAttr]
   all_goals ((try and_intros) <;> first | rfl | assumption | (((rw [allOut, if_neg hb]) <;> rfl)))
  ·have hb : patErr p = 0 := by simpa using hb
   refine AW.skip ?_
   simp only [zs, simprocAttr]
   all_goals ((try and_intros) <;> first | rfl | assumption | (exact hb))
 rintro s σ ⟨rfl, e1, e2, l2, hpe⟩
 have l2' := l2
 rw [encPat] at l2'
 refine AW.seq_j (fun s' σ' => σ' = Hp.empty ∧ s'.t 2 = .lp 2 0 ∧ s'.l 2 = some (encPat p) ∧ s'.t 7 = .sl (l.map encP) ∧ s'.t 8 = .c (.int .i64 e)) ?_ ?_
 ·skip
  refine AW.reg0 ?_
  iterate 3 refine S.one (J5 e1 e2 l2' hE @nd) ?_
  have q1q := J5 e1 e2 l2' hE @nd
  refine S.cl q1q hnode ?_
  all_goals iterate 5 refine S.one q1q ?_
  all_goals refine S.nil ?_
  all_goals simp only [ze, simprocAttr, q1q]
  all_goals exact fn1
 rintro s σ ⟨rfl, e2, l2, e7, e8⟩
 refine AW.seq_j (fun s' σ' => σ' = Hp.empty ∧ s'.t 2 = .lp 2 0 ∧ s'.l 2 = some (encPat p) ∧ s'.t 7 = .sl (l.map encP) ∧ e = 0) ?_ ?_
 ·refine AW.sr e8 ?_
  refine AW.cd (e != 0) (fun hb => ?_) (fun hb => ?_)
  ·have hb : e ≠ 0 := by simpa using hb
   refine AW.sr e8 ?_
   refine AW.ret ?_
   simp only [zs, simprocAttr]
   all_goals ((try and_intros) <;> first | rfl | assumption | (((rw [allOut, if_pos hpe, if_neg hb]) <;> rfl)))
  ·have hb : e = 0 := by simpa using hb
   refine AW.skip ?_
   simp only [zs, simprocAttr]
   all_goals ((try and_intros) <;> first | rfl | assumption | (exact hb))
 rintro s σ ⟨rfl, e2, l2, e7, he0⟩
 obtain ⟨hll, hlq⟩ := hno he0
 have hout : allOut p (l, e) = (l.filter (matchB p), 0) := by rw [allOut, if_pos hpe, if_pos he0]
 have hwi := within_in hpe
 all_goals refine AW.sr (J3 e2 l2 e7) ?_
 refine AW.seq_k fun K8 h8 => ?_
 all_goals refine AW.sr trivial ?_
 refine AW.block ?_   -- 0
 refine AW.loop (fun m s σ => ∃ i : Nat, m + i = l.length ∧ s.t 2 = .lp 2 0 ∧ s.l 2 = some (encPat p) ∧ s.t 7 = .sl (l.map encP) ∧ AccP ((l.take i).filter (matchB p)) (s.t 9) σ ∧ s.t 10 = .c (.int .i64 (i : Nat))) l.length ?_ ?_
 ·refine ⟨0, by simp, ?_⟩
  simp only [zs, simprocAttr, e2, l2, e7]
  all_goals ((try and_intros) <;> first | rfl | assumption | (exact .inl ⟨rfl, rfl, rfl⟩))
 rintro m s σ ⟨i, hm, e2, l2, e7, hacc, e10⟩
 refine AW.seq_k fun K10 h10 => ?_
 all_goals refine AW.sr (J3 e7 e10 @List.length_map.{0,0}) ?_
 refine AW.cd (decide (i < l.length)) (fun hi => ?_) (fun hi => ?_)
 ·have hi := of_decide_eq_true hi
  obtain ⟨x, hx, hxm, hg, hd, _⟩ := part_get hi
  have hxq := hlq x hxm
  have hxl := hxq.toL
  have hw := wadd1 (a := i) (by omega)
  have hwith := rWithin_spec p x hxl.len hxq.time hwi
  have hconds := rAll_spec p.conds x hxl.ev hxl.len hp.len
  have hlen : ((l.take i).filter (matchB p)).length ≤ i := Nat.le_trans (List.length_filter_le _ _) (by rw [List.length_take]; omega)
  have hst : (l.take (i + 1)).filter (matchB p) = (l.take i).filter (matchB p) ++ if matchB p x then [x] else [] := by
   rw [List.take_add_one, hx, List.filter_append]
   congr 1
   cases hp : matchB p x <;> simp [hp]
  refine AW.skip ?_
  simp only [zs, simprocAttr]
  all_goals apply_assumption
  refine AW.seq_j (fun s' σ' => s'.t 2 = .lp 2 0 ∧ s'.l 2 = some (encPat p) ∧ s'.t 7 = .sl (l.map encP) ∧ AccP ((l.take (i + 1)).filter (matchB p)) (s'.t 9) σ' ∧ s'.t 10 = .c (.int .i64 (i : Nat))) ?_ ?_
  ·refine AW.block ?_   -- 1
   refine AW.seq_j (fun s' σ' => σ' = σ ∧ s'.t 2 = .lp 2 0 ∧ s'.l 2 = some (encPat p) ∧ s'.t 7 = .sl (l.map encP) ∧ s'.t 9 = s.t 9 ∧ s'.t 10 = .c (.int .i64 (i : Nat)) ∧ s'.t 46 = .c (.bool (matchB p x))) ?_ ?_
   ·rw [encPat] at l2
    cases hsp : spanB p x
    ·rw [hsp] at hwith
     refine AW.dv { sd := fun d => d == 2 } [(1,0),(2,0),(3,0),(0,1),(4,1),(5,2),(6,0),(7,0),(9,0),(10,0),(11,0),(8,1),(12,1),(13,2),(14,0)] ?_
     have q2q := J8 e2 l2 e7 e10 hi hg @encP.eq_1 @List.length_map.{0,0}
     iterate 3 refine D.one q2q ?_
     iterate 2 refine D.one q2q ?_
     have q3q := J8 e2 l2 e7 e10 hi hg @encP.eq_1 @List.length_map.{0,0}
     (refine D.cb q3q hwith fun b a37 => ?_; cases b <;> (try exact nope a37))
     all_goals iterate 5 refine D.one q3q ?_
     all_goals iterate 2 refine D.one q3q ?_
     all_goals have q4q := J8 e2 l2 e7 e10 hi hg @encP.eq_1 @List.length_map.{0,0}
     all_goals (first | (refine D.cl q4q hconds ?_) | refine D.one trivial ?_)
     all_goals refine D.one q4q ?_
     all_goals refine D.nil ?_
     all_goals simp only [ze, simprocAttr, q4q]
     all_goals simp_all [matchB, encPat]
    ·rw [hsp] at hwith
     refine AW.dv { sd := fun d => d == 2 } [(1,0),(2,0),(3,0),(0,1),(4,1),(5,2),(6,0),(7,0),(9,0),(10,0),(11,0),(8,1),(12,1),(13,2),(14,0)] ?_
     have q5q := J8 e2 l2 e7 e10 hi hg @encP.eq_1 @List.length_map.{0,0}
     iterate 3 refine D.one q5q ?_
     iterate 2 refine D.one q5q ?_
     have q6q := J8 e2 l2 e7 e10 hi hg @encP.eq_1 @List.length_map.{0,0}
     (refine D.cb q6q hwith fun b a37 => ?_; cases b <;> (try exact nope a37))
     all_goals iterate 5 refine D.one q6q ?_
     all_goals iterate 2 refine D.one q6q ?_
     all_goals have q7q := J8 e2 l2 e7 e10 hi hg @encP.eq_1 @List.length_map.{0,0}
     all_goals (first | (refine D.cl q7q hconds ?_) | refine D.one trivial ?_)
     all_goals refine D.one q7q ?_
     all_goals refine D.nil ?_
     all_goals simp only [ze, simprocAttr, q7q]
     all_goals simp_all [matchB, encPat]
   rintro s2 σ2 ⟨rfl, e2, l2, e7, e9', e10, e46⟩
   rw [← e9'] at hacc
   refine AW.cond (b := matchB p x) e46 (fun hc => ?_) (fun hc => ?_)
   ·rw [hc, if_pos rfl] at hst
    have y1 : (((l.take i).filter (matchB p)).length + 1 ≤ maxLen) = True := eq_true (by unfold maxLen; omega)
    have y2 : ((((l.take i).filter (matchB p)).length + 1) * 24 ≤ reach) = True := eq_true (by unfold reach; omega)
    have y3 : (1 ≤ maxLen) = True := eq_true (by unfold maxLen; omega)
    have z1 : (∀ (e : List V), e ∈ [[V.sl (x.map encBd)]] → e.length = 1) = True := eq_true fun e he => by rw [List.mem_singleton.1 he]; rfl
    have y4 : (24 ≤ reach) = True := eq_true (by unfold reach; omega)
    rcases hacc with ⟨e9, hn, rfl⟩ | ⟨k, e9, rfl⟩
    ·rw [hn] at hst
     refine AW.reg0 ?_
     iterate 6 (refine S.g rfl rfl fun Y Z => ?_; simp only [zb, simprocAttr, -Int.reduceNatCast', -Int.reduceToNat, tt, e2, l2, e7, e9, e10, hi, hg, encP, z1, y3, y4, List.length_map]; refine Z _ _ ?_; clear Z Y)
     all_goals have q8q := J12 e2 l2 e7 e9 e10 hi hg @encP.eq_1 z1 y3 y4 @List.length_map.{0,0}
     all_goals (refine S.g rfl rfl fun Y Z => ?_; simp only [zz, simprocAttr, -Int.reduceNatCast', -Int.reduceToNat, tt, q8q]; intro k1 hk1 <;> (refine Z _ _ ?_; clear Z Y))
     all_goals refine S.one q8q ?_
     all_goals refine S.nil ?_
     all_goals simp only [ze, simprocAttr, q8q]
     exact .inr ⟨k1, rfl, by rw [hst]; rfl⟩
    ·unfold hpP
     refine AW.reg0 ?_
     iterate 6 (refine S.g rfl rfl fun Y Z => ?_; simp only [zb, simprocAttr, -Int.reduceNatCast', -Int.reduceToNat, tt, e2, l2, e7, e9, e10, hi, hg, encP, z1, y1, y2, y3, y4, List.length_map]; refine Z _ _ ?_; clear Z Y)
     all_goals have q9q := J12 e2 l2 e7 e9 e10 hi hg @encP.eq_1 z1 y1 y2 (J3 y3 y4 @List.length_map.{0,0})
     all_goals (refine S.g rfl rfl fun Y Z => ?_; simp only [zz, simprocAttr, -Int.reduceNatCast', -Int.reduceToNat, tt, q9q]; intro k1 hk1 <;> (refine Z _ _ ?_; clear Z Y))
     all_goals refine S.one q9q ?_
     all_goals refine S.nil ?_
     all_goals simp only [ze, simprocAttr, q9q]
     exact .inr ⟨k1, rfl, by rw [hst, hpP, List.map_append]; rfl⟩
   ·rw [hc, if_neg Bool.false_ne_true, List.append_nil] at hst
    refine AW.skip ?_
    simp only [zs, simprocAttr]
    rw [hst]
    all_goals ((try and_intros) <;> first | rfl | assumption | (exact hacc))
  rintro s2 σ2 ⟨e2, l2, e7, hacc, e10⟩
  all_goals have q10q := J5 e10 hw e2 l2 e7
  all_goals refine AW.reg0 (S.rn q10q ?_)
  all_goals simp only [ze, simprocAttr, q10q]
  refine ⟨m - 1, by omega, i + 1, by omega, ?_⟩
  all_goals ((try and_intros) <;> first | rfl | assumption | (exact hacc))
 ·have hi := of_decide_eq_false hi
  refine AW.exit ?_
  simp only [zs, simprocAttr]
  all_goals apply_assumption
  rw [List.take_of_length_le (by omega)] at hacc
  rcases hacc with ⟨e9, hn, rfl⟩ | ⟨k, e9, rfl⟩
  ·refine AW.sr e9 ?_
   refine AW.ret ?_
   simp only [zs, simprocAttr]
   all_goals ((try and_intros) <;> first | rfl | assumption | (((rw [hout, resP, hn]) <;> rfl)))
  ·refine AW.freeze (k := k) (T := (40, 1)) (es := (l.filter (matchB p)).map encP) (by simp only [hpP, Hp.setGr_gr, if_true]) ?_
   have hem : (hpP Hp.empty k (l.filter (matchB p))).setGr k none = Hp.empty := by simp [hpP]
   rw [hem]
   refine AW.sr (J10 @St.fz_t @St.fz_l @fzV.eq_1 @fzV.eq_2 @fz1.eq_1 @fz1.eq_2 @Option.map_some.{0,0} @List.map.eq_1.{0,0} @List.map.eq_2.{0,0} e9) ?_
   refine AW.ret ?_
   simp only [zs, simprocAttr]
   all_goals ((try and_intros) <;> first | rfl | assumption | (((rw [hout, resP]) <;> rfl)))
def idxB {α : Type} (p : α → Bool) : Nat → List α → Int
  | _, [] => -1
  | i, x :: l => if p x then (i : Int) else idxB p (i + 1) l
theorem idxB_any {α : Type} (p : α → Bool) : ∀ (l : List α) (i : Nat), decide (idxB p i l ≥ 0) = l.any p
  | [], i => rfl
  | x :: l, i => by
    rw [idxB, List.any_cons]
    cases h : p x
    · rw [if_neg Bool.false_ne_true, Bool.false_or]; exact idxB_any p l (i + 1)
    · rw [if_pos rfl, Bool.true_or, decide_eq_true_eq]; omega
theorem idxB_cases {α : Type} (p : α → Bool) : ∀ (l : List α) (i : Nat), (idxB p i l = -1 ∧ ∀ x ∈ l, p x = false) ∨ ∃ k x, idxB p i l = ((i + k : Nat) : Int) ∧ l[k]? = some x ∧ p x = true ∧ ∀ y ∈ l.take k, p y = false
  | [], i => .inl ⟨rfl, fun x h => by cases h⟩
  | x :: l, i => by
    rw [idxB]
    cases h : p x
    · rw [if_neg Bool.false_ne_true]
      rcases idxB_cases p l (i + 1) with ⟨h1, h2⟩ | ⟨k, y, h1, h2, h3, h4⟩
      · exact .inl ⟨h1, fun y hy => by rcases List.mem_cons.1 hy with rfl | hy; exact h; exact h2 y hy⟩
      · refine .inr ⟨k + 1, y, by rw [h1]; congr 1; omega, by simpa using h2, h3, fun z hz => ?_⟩
        rw [List.take_succ_cons] at hz
        rcases List.mem_cons.1 hz with rfl | hz
        · exact h
        · exact h4 z hz
    · rw [if_pos rfl]
      exact .inr ⟨0, x, by simp, rfl, h, fun z hz => by simp at hz⟩
theorem at_get {α : Type} (enc : α → List V) {l : List α} {i : Nat} (h : i < l.length) : ∃ x, l[i]? = some x ∧ x ∈ l ∧ (l.map enc).getD i [] = enc x ∧ l.drop i = x :: l.drop (i + 1) := ⟨l[i], List.getElem?_eq_getElem h, List.getElem_mem h, getD_map h, List.drop_eq_getElem_cons h⟩
theorem idx57_spec {c : V} {g : Nat} {p : (List Bd) → Bool} (l : List (List Bd)) (hl : l.length < 4611686018427387904) (hk : wk c = c) (hv : okV c = true) (hf : ∀ a ∈ l, PCalls Tryz.prog g [.agg (encP a), c] (fun v => v = .c (.bool (p a)))) :
  PCalls Tryz.prog 57 [.sl (l.map encP), .fn (.func g) [] [c]] (fun v => v = .c (.int .i64 (idxB p 0 l))) := by
 refine PCalls.intro Tryz.call57 Tryz.func57 rfl Tryz.ntmps57 Tryz.results57 (by simp) ?_
 refine AW.sr trivial ?_
 refine AW.seq_k fun K2 h2 => ?_
 refine AW.sr @List.length_map.{0,0} ?_
 refine AW.block ?_   -- 0
 refine AW.loop (fun m s σ => σ = Hp.empty ∧ ∃ i : Nat, m + i = l.length ∧ s.t 0 = .sl (l.map encP) ∧ s.t 1 = .fn (.func g) [] [c] ∧ s.t 7 = .c (.int .i64 (l.length : Nat)) ∧ s.t 8 = .c (.int .i64 (i : Nat)) ∧ idxB p 0 l = idxB p i (l.drop i)) l.length ?_ ?_
 ·refine ⟨rfl, 0, by simp, ?_⟩
  simp only [zs, simprocAttr]
  all_goals exact fn1
 rintro m s σ ⟨rfl, i, hm, e0, e1, e7, e8, hp⟩
 all_goals refine AW.sr (J2 e7 e8) ?_
 refine AW.seq_k fun K5 h5 => ?_
 refine AW.cd (decide (i < l.length)) (fun hc => ?_) (fun hc => ?_)
 ·have hi := of_decide_eq_true hc
  obtain ⟨x, hx, hxm, hg, hd⟩ := at_get encP hi
  have hw := wadd1 (a := i) (by omega)
  rw [hd, idxB] at hp
  refine AW.skip ?_
  simp only [zs, simprocAttr]
  all_goals apply_assumption
  refine AW.seq_k fun K6 h6 => ?_
  refine AW.block ?_   -- 1
  refine AW.sr e8 ?_
  refine AW.seq_k fun K8 h8 => ?_
  refine AW.reg0 ?_
  iterate 5 refine S.one (J8 e0 e1 hi hg hv hk @encP.eq_1 @List.length_map.{0,0}) ?_
  have q1q := J8 e0 e1 hi hg hv hk @encP.eq_1 @List.length_map.{0,0}
  refine S.cl q1q (hf x hxm) ?_
  all_goals (refine S.nil ?_; simp only [ze, simprocAttr, q1q]; apply_assumption)
  refine AW.cd (p x) (fun hc2 => ?_) (fun hc2 => ?_)
  ·refine AW.sr trivial ?_
   refine AW.ret ?_
   simp only [zs, simprocAttr]
   rw [hp, if_pos hc2]
  ·refine AW.skip ?_
   simp only [zs, simprocAttr]
   all_goals apply_assumption
   rw [hc2, if_neg Bool.false_ne_true] at hp
   have q2q := J5 e8 hw e0 e1 e7
   refine AW.reg0 (S.rn q2q ?_)
   simp only [ze, simprocAttr, q2q]
   refine ⟨m - 1, by omega, i + 1, by omega, ?_⟩
   all_goals ((try and_intros) <;> first | rfl | assumption | (exact hp))
 ·have hi := of_decide_eq_false hc
  refine AW.exit ?_
  simp only [zs, simprocAttr]
  all_goals apply_assumption
  rw [List.drop_of_length_le (by omega), idxB] at hp
  refine AW.sr trivial ?_
  refine AW.ret ?_
  simp only [zs, simprocAttr]
  rw [hp]
theorem idx119_spec {c : V} {g : Nat} {p : Nd → Bool} (l : List Nd) (hl : l.length < 4611686018427387904) (hk : wk c = c) (hv : okV c = true) (hf : ∀ a ∈ l, PCalls Tryz.prog g [.agg (encNd a), c] (fun v => v = .c (.bool (p a)))) :
  PCalls Tryz.prog 119 [.sl (l.map encNd), .fn (.func g) [] [c]] (fun v => v = .c (.int .i64 (idxB p 0 l))) := by
 refine PCalls.intro Tryz.call119 Tryz.func119 rfl Tryz.ntmps119 Tryz.results119 (by simp) ?_
 refine AW.sr trivial ?_
 refine AW.seq_k fun K2 h2 => ?_
 refine AW.sr @List.length_map.{0,0} ?_
 refine AW.block ?_   -- 0
 refine AW.loop (fun m s σ => σ = Hp.empty ∧ ∃ i : Nat, m + i = l.length ∧ s.t 0 = .sl (l.map encNd) ∧ s.t 1 = .fn (.func g) [] [c] ∧ s.t 7 = .c (.int .i64 (l.length : Nat)) ∧ s.t 8 = .c (.int .i64 (i : Nat)) ∧ idxB p 0 l = idxB p i (l.drop i)) l.length ?_ ?_
 ·refine ⟨rfl, 0, by simp, ?_⟩
  simp only [zs, simprocAttr]
  all_goals exact fn1
 rintro m s σ ⟨rfl, i, hm, e0, e1, e7, e8, hp⟩
 all_goals refine AW.sr (J2 e7 e8) ?_
 refine AW.seq_k fun K5 h5 => ?_
 refine AW.cd (decide (i < l.length)) (fun hc => ?_) (fun hc => ?_)
 ·have hi := of_decide_eq_true hc
  obtain ⟨x, hx, hxm, hg, hd⟩ := at_get encNd hi
  have hw := wadd1 (a := i) (by omega)
  rw [hd, idxB] at hp
  refine AW.skip ?_
  simp only [zs, simprocAttr]
  all_goals apply_assumption
  refine AW.seq_k fun K6 h6 => ?_
  refine AW.block ?_   -- 1
  refine AW.sr e8 ?_
  refine AW.seq_k fun K8 h8 => ?_
  refine AW.reg0 ?_
  iterate 5 refine S.one (J8 e0 e1 hi hg hv hk @nd @List.length_map.{0,0}) ?_
  have q1q := J8 e0 e1 hi hg hv hk @nd @List.length_map.{0,0}
  refine S.cl q1q (hf x hxm) ?_
  all_goals (refine S.nil ?_; simp only [ze, simprocAttr, q1q]; apply_assumption)
  refine AW.cd (p x) (fun hc2 => ?_) (fun hc2 => ?_)
  ·refine AW.sr trivial ?_
   refine AW.ret ?_
   simp only [zs, simprocAttr]
   rw [hp, if_pos hc2]
  ·refine AW.skip ?_
   simp only [zs, simprocAttr]
   all_goals apply_assumption
   rw [hc2, if_neg Bool.false_ne_true] at hp
   have q2q := J5 e8 hw e0 e1 e7
   refine AW.reg0 (S.rn q2q ?_)
   simp only [ze, simprocAttr, q2q]
   refine ⟨m - 1, by omega, i + 1, by omega, ?_⟩
   all_goals ((try and_intros) <;> first | rfl | assumption | (exact hp))
 ·have hi := of_decide_eq_false hc
  refine AW.exit ?_
  simp only [zs, simprocAttr]
  all_goals apply_assumption
  rw [List.drop_of_length_le (by omega), idxB] at hp
  refine AW.sr trivial ?_
  refine AW.ret ?_
  simp only [zs, simprocAttr]
  rw [hp]
theorem any85_spec {c : V} {g : Nat} {p : Nd → Bool} (l : List Nd) (hl : l.length < 4611686018427387904) (hk : wk c = c) (hv : okV c = true) (hf : ∀ a ∈ l, PCalls Tryz.prog g [.agg (encNd a), c] (fun v => v = .c (.bool (p a)))) :
  PCalls Tryz.prog 85 [.sl (l.map encNd), .fn (.func g) [] [c]] (fun v => v = .c (.bool (l.any p))) := by
 have hh := idxB_any p l 0
 refine PCalls.intro Tryz.call85 Tryz.func85 rfl Tryz.ntmps85 Tryz.results85 (by simp) ?_
 refine AW.sr trivial ?_
 refine AW.seq_k fun K2 h2 => ?_
 refine AW.reg0 ?_
 iterate 2 refine S.one (J3 hv hk hh) ?_
 refine S.cl (J3 hv hk hh) (idx119_spec l hl hk hv hf) ?_
 all_goals iterate 2 refine S.one (J3 hv hk hh) ?_
 all_goals (refine S.nil ?_; simp only [ze, simprocAttr, hv, hk, hh]; apply_assumption)
 refine AW.ret ?_
 all_goals simp only [zs, simprocAttr]
 all_goals exact fn1
theorem idx127_spec {c : V} {g : Nat} {p : Cnd → Bool} (l : List Cnd) (hl : l.length < 4611686018427387904) (hk : wk c = c) (hv : okV c = true) (hf : ∀ a ∈ l, PCalls Tryz.prog g [.agg (encC a), c] (fun v => v = .c (.bool (p a)))) :
  PCalls Tryz.prog 127 [.sl (l.map encC), .fn (.func g) [] [c]] (fun v => v = .c (.int .i64 (idxB p 0 l))) := by
 refine PCalls.intro Tryz.call127 Tryz.func127 rfl Tryz.ntmps127 Tryz.results127 (by simp) ?_
 refine AW.sr trivial ?_
 refine AW.seq_k fun K2 h2 => ?_
 refine AW.sr @List.length_map.{0,0} ?_
 refine AW.block ?_   -- 0
 refine AW.loop (fun m s σ => σ = Hp.empty ∧ ∃ i : Nat, m + i = l.length ∧ s.t 0 = .sl (l.map encC) ∧ s.t 1 = .fn (.func g) [] [c] ∧ s.t 7 = .c (.int .i64 (l.length : Nat)) ∧ s.t 8 = .c (.int .i64 (i : Nat)) ∧ idxB p 0 l = idxB p i (l.drop i)) l.length ?_ ?_
 ·refine ⟨rfl, 0, by simp, ?_⟩
  simp only [zs, simprocAttr]
  all_goals exact fn1
 rintro m s σ ⟨rfl, i, hm, e0, e1, e7, e8, hp⟩
 all_goals refine AW.sr (J2 e7 e8) ?_
 refine AW.seq_k fun K5 h5 => ?_
 refine AW.cd (decide (i < l.length)) (fun hc => ?_) (fun hc => ?_)
 ·have hi := of_decide_eq_true hc
  obtain ⟨x, hx, hxm, hg, hd⟩ := at_get encC hi
  have hw := wadd1 (a := i) (by omega)
  rw [hd, idxB] at hp
  refine AW.skip ?_
  simp only [zs, simprocAttr]
  all_goals apply_assumption
  refine AW.seq_k fun K6 h6 => ?_
  refine AW.block ?_   -- 1
  refine AW.sr e8 ?_
  refine AW.seq_k fun K8 h8 => ?_
  refine AW.reg0 ?_
  iterate 5 refine S.one (J8 e0 e1 hi hg hv hk @cd @List.length_map.{0,0}) ?_
  have q1q := J8 e0 e1 hi hg hv hk @cd @List.length_map.{0,0}
  refine S.cl q1q (hf x hxm) ?_
  all_goals (refine S.nil ?_; simp only [ze, simprocAttr, q1q]; apply_assumption)
  refine AW.cd (p x) (fun hc2 => ?_) (fun hc2 => ?_)
  ·refine AW.sr trivial ?_
   refine AW.ret ?_
   simp only [zs, simprocAttr]
   rw [hp, if_pos hc2]
  ·refine AW.skip ?_
   simp only [zs, simprocAttr]
   all_goals apply_assumption
   rw [hc2, if_neg Bool.false_ne_true] at hp
   have q2q := J5 e8 hw e0 e1 e7
   refine AW.reg0 (S.rn q2q ?_)
   simp only [ze, simprocAttr, q2q]
   refine ⟨m - 1, by omega, i + 1, by omega, ?_⟩
   all_goals ((try and_intros) <;> first | rfl | assumption | (exact hp))
 ·have hi := of_decide_eq_false hc
  refine AW.exit ?_
  simp only [zs, simprocAttr]
  all_goals apply_assumption
  rw [List.drop_of_length_le (by omega), idxB] at hp
  refine AW.sr trivial ?_
  refine AW.ret ?_
  simp only [zs, simprocAttr]
  rw [hp]
theorem any99_spec {c : V} {g : Nat} {p : Cnd → Bool} (l : List Cnd) (hl : l.length < 4611686018427387904) (hk : wk c = c) (hv : okV c = true) (hf : ∀ a ∈ l, PCalls Tryz.prog g [.agg (encC a), c] (fun v => v = .c (.bool (p a)))) :
  PCalls Tryz.prog 99 [.sl (l.map encC), .fn (.func g) [] [c]] (fun v => v = .c (.bool (l.any p))) := by
 have hh := idxB_any p l 0
 refine PCalls.intro Tryz.call99 Tryz.func99 rfl Tryz.ntmps99 Tryz.results99 (by simp) ?_
 refine AW.sr trivial ?_
 refine AW.seq_k fun K2 h2 => ?_
 refine AW.reg0 ?_
 iterate 2 refine S.one (J3 hv hk hh) ?_
 refine S.cl (J3 hv hk hh) (idx127_spec l hl hk hv hf) ?_
 all_goals iterate 2 refine S.one (J3 hv hk hh) ?_
 all_goals (refine S.nil ?_; simp only [ze, simprocAttr, hv, hk, hh]; apply_assumption)
 refine AW.ret ?_
 all_goals simp only [zs, simprocAttr]
 all_goals exact fn1
theorem idx153_spec {c : V} {g : Nat} {p : Attr → Bool} (l : List Attr) (hl : l.length < 4611686018427387904) (hk : wk c = c) (hv : okV c = true) (hf : ∀ a ∈ l, PCalls Tryz.prog g [.agg (encAttr a), c] (fun v => v = .c (.bool (p a)))) :
  PCalls Tryz.prog 153 [.sl (l.map encAttr), .fn (.func g) [] [c]] (fun v => v = .c (.int .i64 (idxB p 0 l))) := by
 refine PCalls.intro Tryz.call153 Tryz.func153 rfl Tryz.ntmps153 Tryz.results153 (by simp) ?_
 refine AW.sr trivial ?_
 refine AW.seq_k fun K2 h2 => ?_
 refine AW.sr @List.length_map.{0,0} ?_
 refine AW.block ?_   -- 0
 refine AW.loop (fun m s σ => σ = Hp.empty ∧ ∃ i : Nat, m + i = l.length ∧ s.t 0 = .sl (l.map encAttr) ∧ s.t 1 = .fn (.func g) [] [c] ∧ s.t 7 = .c (.int .i64 (l.length : Nat)) ∧ s.t 8 = .c (.int .i64 (i : Nat)) ∧ idxB p 0 l = idxB p i (l.drop i)) l.length ?_ ?_
 ·refine ⟨rfl, 0, by simp, ?_⟩
  simp only [zs, simprocAttr]
  all_goals exact fn1
 rintro m s σ ⟨rfl, i, hm, e0, e1, e7, e8, hp⟩
 all_goals refine AW.sr (J2 e7 e8) ?_
 refine AW.seq_k fun K5 h5 => ?_
 refine AW.cd (decide (i < l.length)) (fun hc => ?_) (fun hc => ?_)
 ·have hi := of_decide_eq_true hc
  obtain ⟨x, hx, hxm, hg, hd⟩ := at_get encAttr hi
  have hw := wadd1 (a := i) (by omega)
  rw [hd, idxB] at hp
  refine AW.skip ?_
  simp only [zs, simprocAttr]
  all_goals apply_assumption
  refine AW.seq_k fun K6 h6 => ?_
  refine AW.block ?_   -- 1
  refine AW.sr e8 ?_
  refine AW.seq_k fun K8 h8 => ?_
  refine AW.reg0 ?_
  iterate 5 refine S.one (J8 e0 e1 hi hg hv hk @encAttr.eq_1 @List.length_map.{0,0}) ?_
  have q1q := J8 e0 e1 hi hg hv hk @encAttr.eq_1 @List.length_map.{0,0}
  refine S.cl q1q (hf x hxm) ?_
  all_goals (refine S.nil ?_; simp only [ze, simprocAttr, q1q]; apply_assumption)
  refine AW.cd (p x) (fun hc2 => ?_) (fun hc2 => ?_)
  ·refine AW.sr trivial ?_
   refine AW.ret ?_
   simp only [zs, simprocAttr]
   rw [hp, if_pos hc2]
  ·refine AW.skip ?_
   simp only [zs, simprocAttr]
   all_goals apply_assumption
   rw [hc2, if_neg Bool.false_ne_true] at hp
   have q2q := J5 e8 hw e0 e1 e7
   refine AW.reg0 (S.rn q2q ?_)
   simp only [ze, simprocAttr, q2q]
   refine ⟨m - 1, by omega, i + 1, by omega, ?_⟩
   all_goals ((try and_intros) <;> first | rfl | assumption | (exact hp))
 ·have hi := of_decide_eq_false hc
  refine AW.exit ?_
  simp only [zs, simprocAttr]
  all_goals apply_assumption
  rw [List.drop_of_length_le (by omega), idxB] at hp
  refine AW.sr trivial ?_
  refine AW.ret ?_
  simp only [zs, simprocAttr]
  rw [hp]
theorem idx174_spec {c : V} {g : Nat} {p : Bd → Bool} (l : List Bd) (hl : l.length < 4611686018427387904) (hk : wk c = c) (hv : okV c = true) (hf : ∀ a ∈ l, PCalls Tryz.prog g [.agg (encBd a), c] (fun v => v = .c (.bool (p a)))) :
  PCalls Tryz.prog 174 [.sl (l.map encBd), .fn (.func g) [] [c]] (fun v => v = .c (.int .i64 (idxB p 0 l))) := by
 refine PCalls.intro Tryz.call174 Tryz.func174 rfl Tryz.ntmps174 Tryz.results174 (by simp) ?_
 refine AW.sr trivial ?_
 refine AW.seq_k fun K2 h2 => ?_
 refine AW.sr @List.length_map.{0,0} ?_
 refine AW.block ?_   -- 0
 refine AW.loop (fun m s σ => σ = Hp.empty ∧ ∃ i : Nat, m + i = l.length ∧ s.t 0 = .sl (l.map encBd) ∧ s.t 1 = .fn (.func g) [] [c] ∧ s.t 7 = .c (.int .i64 (l.length : Nat)) ∧ s.t 8 = .c (.int .i64 (i : Nat)) ∧ idxB p 0 l = idxB p i (l.drop i)) l.length ?_ ?_
 ·refine ⟨rfl, 0, by simp, ?_⟩
  simp only [zs, simprocAttr]
  all_goals exact fn1
 rintro m s σ ⟨rfl, i, hm, e0, e1, e7, e8, hp⟩
 all_goals refine AW.sr (J2 e7 e8) ?_
 refine AW.seq_k fun K5 h5 => ?_
 refine AW.cd (decide (i < l.length)) (fun hc => ?_) (fun hc => ?_)
 ·have hi := of_decide_eq_true hc
  obtain ⟨x, hx, hxm, hg, hd⟩ := at_get encBd hi
  have hw := wadd1 (a := i) (by omega)
  rw [hd, idxB] at hp
  refine AW.skip ?_
  simp only [zs, simprocAttr]
  all_goals apply_assumption
  refine AW.seq_k fun K6 h6 => ?_
  refine AW.block ?_   -- 1
  refine AW.sr e8 ?_
  refine AW.seq_k fun K8 h8 => ?_
  refine AW.reg0 ?_
  iterate 5 refine S.one (J8 e0 e1 hi hg hv hk @encBd.eq_1 @List.length_map.{0,0}) ?_
  have q1q := J8 e0 e1 hi hg hv hk @encBd.eq_1 @List.length_map.{0,0}
  refine S.cl q1q (hf x hxm) ?_
  all_goals (refine S.nil ?_; simp only [ze, simprocAttr, q1q]; apply_assumption)
  refine AW.cd (p x) (fun hc2 => ?_) (fun hc2 => ?_)
  ·refine AW.sr trivial ?_
   refine AW.ret ?_
   simp only [zs, simprocAttr]
   rw [hp, if_pos hc2]
  ·refine AW.skip ?_
   simp only [zs, simprocAttr]
   all_goals apply_assumption
   rw [hc2, if_neg Bool.false_ne_true] at hp
   have q2q := J5 e8 hw e0 e1 e7
   refine AW.reg0 (S.rn q2q ?_)
   simp only [ze, simprocAttr, q2q]
   refine ⟨m - 1, by omega, i + 1, by omega, ?_⟩
   all_goals ((try and_intros) <;> first | rfl | assumption | (exact hp))
 ·have hi := of_decide_eq_false hc
  refine AW.exit ?_
  simp only [zs, simprocAttr]
  all_goals apply_assumption
  rw [List.drop_of_length_le (by omega), idxB] at hp
  refine AW.sr trivial ?_
  refine AW.ret ?_
  simp only [zs, simprocAttr]
  rw [hp]
def cap (cells : List V) : V := .ip [cells] 0 0
theorem cap_wk (cells : List V) : wk (cap cells) = cap cells := rfl
theorem cap_ok (cells : List V) : okV (cap cells) = true := rfl
theorem getF_spec (a : Attr) (nm : ByteArray) : PCalls Tryz.prog 154 [.agg (encAttr a), cap [.c (.string nm)]] (fun v => v = .c (.bool (eqS a.name nm))) := by
 refine PCalls.intro Tryz.call154 Tryz.func154 rfl Tryz.ntmps154 Tryz.results154 (by simp) ?_
 refine AW.sr (J2 @encAttr.eq_1 @cap.eq_1) ?_
 refine AW.sr trivial ?_
 refine AW.ret ?_
 simp only [zs, simprocAttr]
 all_goals exact fn1
theorem getV_none {nm : ByteArray} : ∀ {l : List Attr}, (∀ x ∈ l, eqS x.name nm = false) → getV nm l = (noVal, false)
 | [], _ => rfl
 | x :: l, h => by rw [getV, h x List.mem_cons_self, if_neg Bool.false_ne_true]; exact getV_none fun y hy => h y (List.mem_cons_of_mem _ hy)
theorem getV_at {nm : ByteArray} : ∀ {l : List Attr} {k : Nat} {x : Attr}, l[k]? = some x → eqS x.name nm = true → (∀ y ∈ l.take k, eqS y.name nm = false) → getV nm l = (x.v, true)
  | [], k, x, h, _, _ => by simp at h
  | y :: l, 0, x, h, he, _ => by simp at h; subst h; rw [getV, if_pos he]
  | y :: l, k + 1, x, h, he, hn => by
    rw [List.take_succ_cons] at hn
    rw [getV, hn y List.mem_cons_self, if_neg Bool.false_ne_true]
    exact getV_at (by simpa using h) he fun z hz => hn z (List.mem_cons_of_mem _ hz)
theorem Get_spec (l : List Attr) (nm : ByteArray) (hl : l.length < 4611686018427387904) : PCalls Tryz.prog 129 [.sl (l.map encAttr), .c (.string nm)] (fun v => v = .tup [.agg (encVal (getV nm l).1), .c (.bool (getV nm l).2)]) := by
 refine PCalls.intro Tryz.call129 Tryz.func129 rfl Tryz.ntmps129 Tryz.results129 (by simp) ?_
 refine AW.seq_j (fun s σ => σ = Hp.empty ∧ s.t 0 = .sl (l.map encAttr) ∧ s.t 3 = .lp 3 0 ∧ s.l 3 = some [.c (.string nm)] ∧ s.t 4 = .lp 4 0 ∧ s.l 4 = some [.c (.int .i64 0), .c (.int .i64 0), .c (.string ⟨#[]⟩)]) ?_ ?_
 ·skip
  refine AW.reg0 (S.rn trivial ?_)
  simp only [ze, simprocAttr]
  all_goals exact fn1
 rintro s σ ⟨rfl, e0, e3, l3, e4, l4⟩
 refine AW.hushBox l3 (by simp) ?_
 have f0 : (s.bx 3 [.c (.string nm)]).t 0 = .sl (l.map encAttr) := by simp [e0, bxV]
 have f3 : (s.bx 3 [.c (.string nm)]).t 3 = cap [.c (.string nm)] := by simp [e3, bxV, cap]
 have f4 : (s.bx 3 [.c (.string nm)]).t 4 = .lp 4 0 := by simp [e4, bxV]
 have g4 : (s.bx 3 [.c (.string nm)]).l 4 = some [.c (.int .i64 0), .c (.int .i64 0), .c (.string ⟨#[]⟩)] := by simp [l4]
 generalize s.bx 3 [.c (.string nm)] = s at *
 refine AW.seq_k fun K1 h1 => ?_
 all_goals refine AW.reg0 ?_
 all_goals iterate 2 refine S.one (J3 f0 f3 @cap_ok) ?_
 all_goals have q1q := J3 f0 f3 @cap_ok
 all_goals refine S.cl q1q (idx153_spec l hl (cap_wk _) (cap_ok _) (fun a _ => getF_spec a nm)) ?_
 all_goals refine S.one q1q ?_
 all_goals (refine S.nil ?_; simp only [ze, simprocAttr, q1q]; apply_assumption)
 refine AW.seq_k fun K2 h2 => ?_
 all_goals refine AW.sr trivial ?_
 refine AW.cd (decide (idxB (fun a => eqS a.name nm) 0 l < 0)) (fun hb => ?_) (fun hb => ?_)
 ·have hb := of_decide_eq_true hb
  have hv : getV nm l = (noVal, false) := by
   rcases idxB_cases (fun a : Attr => eqS a.name nm) l 0 with ⟨_, h⟩ | ⟨k, x, h, _⟩
   ·exact getV_none h
   ·omega
  refine AW.sr (J2 f4 g4) ?_
  refine AW.ret ?_
  simp only [zs, simprocAttr, zz, tt, f4, g4]
  all_goals ((try and_intros) <;> first | rfl | assumption | (((rw [hv]) <;> rfl)))
 ·have hb := of_decide_eq_false hb
  rcases idxB_cases (fun a : Attr => eqS a.name nm) l 0 with ⟨h, _⟩ | ⟨k, x, h, hx, he, hn⟩
  ·omega
  have hv := getV_at hx he hn
  have hk : k < l.length := (List.getElem?_eq_some_iff.1 hx).1
  have hg : (l.map encAttr).getD k [] = encAttr x := by rw [getD_map hk, (List.getElem?_eq_some_iff.1 hx).2]
  rw [Nat.zero_add] at h
  refine AW.skip ?_
  all_goals simp only [zs, simprocAttr]
  all_goals apply_assumption
  all_goals refine AW.sr (J8 f0 f4 g4 h hk hg @encAttr.eq_1 @List.length_map.{0,0}) ?_
  refine AW.ret ?_
  all_goals simp only [zs, simprocAttr, zz, tt, f4, g4]
  all_goals ((try and_intros) <;> first | rfl | assumption | (((rw [hv]) <;> rfl)))
theorem of1_spec (o : Opd) (e : Ev) (he : e.attrs.length < 4611686018427387904) : PCalls Tryz.prog 128 [.agg (encO o), cap (encEv e)] (fun v => v = .agg (encVal (opVal o e))) := by
 refine PCalls.intro Tryz.call128 Tryz.func128 rfl Tryz.ntmps128 Tryz.results128 (by simp) ?_
 refine AW.sr (J3 @encO.eq_1 @encEv.eq_1 @cap.eq_1) ?_
 refine AW.seq_k fun K2 h2 => ?_
 refine AW.sr trivial ?_
 refine AW.cd (decide (o.attr.size = 0)) (fun hb => ?_) (fun hb => ?_)
 ·have hb := of_decide_eq_true hb
  refine AW.sr trivial ?_
  refine AW.ret ?_
  simp only [zs, simprocAttr, zz, tt]
  all_goals ((try and_intros) <;> first | rfl | assumption | (((rw [opVal, if_pos hb]) <;> rfl)))
 ·have hb := of_decide_eq_false hb
  refine AW.skip ?_
  simp only [zs, simprocAttr]
  all_goals apply_assumption
  refine AW.seq_k fun K5 h5 => ?_
  refine AW.reg0 ?_
  iterate 4 refine S.one @encVal.eq_1 ?_
  refine S.cl @encVal.eq_1 (Get_spec _ _ he) ?_
  all_goals iterate 6 refine S.one @encVal.eq_1 ?_
  all_goals (refine S.nil ?_; simp only [ze, simprocAttr, encVal]; apply_assumption)
  all_goals refine AW.sr trivial ?_
  refine AW.ret ?_
  all_goals simp only [zs, simprocAttr, zz, tt]
  all_goals ((try and_intros) <;> first | rfl | assumption | (((rw [opVal, if_neg hb]) <;> rfl)))
theorem Test_spec (c : Cnd) (e : Ev) (he : e.attrs.length < 4611686018427387904) : PCalls Tryz.prog 101 [.agg (encC c), .agg (encEv e)] (fun v => v = .c (.bool (testB e c))) := by
 refine PCalls.intro Tryz.call101 Tryz.func101 rfl Tryz.ntmps101 Tryz.results101 (by simp) ?_
 refine AW.seq_j (fun s σ => σ = Hp.empty ∧ s.t 2 = .lp 2 0 ∧ s.l 2 = some (encC c) ∧ s.t 3 = .lp 3 0 ∧ s.l 3 = some (encEv e)) ?_ ?_
 ·skip
  have q1q := J3 @encC.eq_1 @encO.eq_1 @encEv.eq_1
  refine AW.reg0 (S.rn q1q ?_)
  simp only [ze, simprocAttr, q1q]
  all_goals exact fn1
 rintro s σ ⟨rfl, e2, l2, e3, l3⟩
 refine AW.hushBox l3 (by simp [encEv]) ?_
 have f2 : (s.bx 3 (encEv e)).t 2 = .lp 2 0 := by simp [e2, bxV]
 have g2 : (s.bx 3 (encEv e)).l 2 = some (encC c) := by simp [l2]
 have f3 : (s.bx 3 (encEv e)).t 3 = cap (encEv e) := by simp [e3, bxV, cap]
 generalize s.bx 3 (encEv e) = s at *
 rw [encC] at g2
 unfold encO at g2
 simp only [List.cons_append, List.nil_append] at g2
 all_goals refine AW.sr (J4 f2 g2 f3 @cap_ok) ?_
 refine AW.seq_k fun K2 h2 => ?_
 all_goals refine AW.dv { sd := fun d => d == 2 } [(0,0),(2,0),(3,0),(6,0),(7,0),(1,1),(4,1),(8,1),(5,2),(9,2),(10,2),(11,0)] ?_
 all_goals have q2q := J5 f2 g2 f3 @cap_ok @cap_wk
 all_goals iterate 5 refine D.one q2q ?_
 all_goals iterate 3 refine D.one q2q ?_
 all_goals refine D.cl (J5 f2 g2 f3 @cap_ok @cap_wk) (of1_spec c.l e he) ?_
 all_goals refine D.cl (J5 f2 g2 f3 @cap_ok @cap_wk) (of1_spec c.r e he) ?_
 all_goals have q3q := J5 f2 g2 f3 @cap_ok @cap_wk
 all_goals refine D.cl q3q (Holds_spec _ _ _) ?_
 all_goals refine D.one q3q ?_
 all_goals (refine D.nil ?_; apply_assumption)
 refine AW.ret ?_
 all_goals simp only [zs, simprocAttr]
 all_goals exact fn1
theorem not1_spec (c : Cnd) (e : Ev) (he : e.attrs.length < 4611686018427387904) : PCalls Tryz.prog 100 [.agg (encC c), cap (encEv e)] (fun v => v = .c (.bool (!testB e c))) := by
 refine PCalls.intro Tryz.call100 Tryz.func100 rfl Tryz.ntmps100 Tryz.results100 (by simp) ?_
 refine AW.sr (J3 @encC.eq_1 @encO.eq_1 @cap.eq_1) ?_
 refine AW.seq_k fun K2 h2 => ?_
 refine AW.reg0 ?_
 iterate 2 refine S.one @encEv.eq_1 ?_
 refine S.cl @encEv.eq_1 (Test_spec c e he) ?_
 all_goals iterate 2 refine S.one @encEv.eq_1 ?_
 all_goals (refine S.nil ?_; simp only [ze, simprocAttr, encEv]; apply_assumption)
 refine AW.ret ?_
 all_goals simp only [zs, simprocAttr]
 all_goals exact fn1
theorem any_not {α : Type} (p : α → Bool) (l : List α) : (l.any fun x => !p x) = !l.all p := by
 induction l with
 | nil => rfl
 | cons x l ih => rw [List.any_cons, ih, List.all_cons]; cases p x <;> rfl
theorem Term_spec (n : Nd) (e : Ev) (he : e.attrs.length < 4611686018427387904) (hl : n.tests.length < 4611686018427387904) : PCalls Tryz.prog 68 [.agg (encNd n), .agg (encEv e)] (fun v => v = .c (.bool (termB n e))) := by
 have hany := any99_spec (p := fun c => !testB e c) (c := cap (encEv e)) (g := 100) n.tests hl (cap_wk _) (cap_ok _) (fun c _ => not1_spec c e he)
 rw [any_not] at hany
 rw [encNd_eq]
 refine PCalls.intro Tryz.call68 Tryz.func68 rfl Tryz.ntmps68 Tryz.results68 (by simp) ?_
 refine AW.seq_j (fun s σ => σ = Hp.empty ∧ s.t 2 = .lp 2 0 ∧ s.l 2 = some [.c (.int .i64 n.kind), .c (.string n.var), .c (.string n.type), .sl (n.tests.map encC), .sl (n.kids.map encNd)] ∧ s.t 3 = .lp 3 0 ∧ s.l 3 = some (encEv e)) ?_ ?_
 ·skip
  refine AW.reg0 (S.rn @encEv.eq_1 ?_)
  simp only [ze, simprocAttr, encEv]
  all_goals exact fn1
 rintro s σ ⟨rfl, e2, l2, e3, l3⟩
 refine AW.hushBox l3 (by simp [encEv]) ?_
 have f2 : (s.bx 3 (encEv e)).t 2 = .lp 2 0 := by simp [e2, bxV]
 have g2 : (s.bx 3 (encEv e)).l 2 = some [.c (.int .i64 n.kind), .c (.string n.var), .c (.string n.type), .sl (n.tests.map encC), .sl (n.kids.map encNd)] := by simp [l2]
 have f3 : (s.bx 3 (encEv e)).t 3 = cap (encEv e) := by simp [e3, bxV, cap]
 generalize s.bx 3 (encEv e) = s at *
 have hs : eqS n.type e.type = eqS e.type n.type := eqS_symm _ _
 have hcap : cap (encEv e) = .ip [encEv e] 0 0 := rfl
 refine AW.seq_j (fun s' σ' => σ' = Hp.empty ∧ s'.t 4 = .c (.bool (termB n e))) ?_ ?_
 ·unfold termB
  rw [← hs]
  unfold eqS
  cases hall : n.tests.all (testB e)
  all_goals rw [hall] at hany
  ·skip
   refine AW.reg0 ?_
   have q1q := J6 f2 g2 f3 @cap_ok @cap.eq_1 @encEv.eq_1
   iterate 2 refine S.one q1q ?_
   (refine S.sp q1q fun b a7 => ?_; cases b <;> (try exact nope a7))
   all_goals iterate 5 refine S.one q1q ?_
   all_goals (first | (refine S.sp q1q fun b a13 => ?_; cases b <;> (try exact nope a13)) | refine S.one trivial ?_)
   all_goals iterate 5 refine S.one q1q ?_
   all_goals have q2q := J6 f2 g2 f3 @cap_ok @cap.eq_1 @encEv.eq_1
   all_goals (first | (refine S.cl q2q hany ?_) | refine S.one trivial ?_)
   all_goals iterate 3 refine S.one q2q ?_
   all_goals refine S.nil ?_
   all_goals simp only [ze, simprocAttr, q2q]
   all_goals simp_all
  ·skip
   refine AW.reg0 ?_
   have q3q := J6 f2 g2 f3 @cap_ok @cap.eq_1 @encEv.eq_1
   iterate 2 refine S.one q3q ?_
   (refine S.sp q3q fun b a7 => ?_; cases b <;> (try exact nope a7))
   all_goals iterate 5 refine S.one q3q ?_
   all_goals (first | (refine S.sp q3q fun b a13 => ?_; cases b <;> (try exact nope a13)) | refine S.one trivial ?_)
   all_goals iterate 5 refine S.one q3q ?_
   all_goals have q4q := J6 f2 g2 f3 @cap_ok @cap.eq_1 @encEv.eq_1
   all_goals (first | (refine S.cl q4q hany ?_) | refine S.one trivial ?_)
   all_goals iterate 3 refine S.one q4q ?_
   all_goals refine S.nil ?_
   all_goals simp only [ze, simprocAttr, q4q]
   all_goals simp_all
 rintro s σ ⟨rfl, e4⟩
 refine AW.ret ?_
 all_goals simp only [zs, simprocAttr, e4]
 all_goals exact fn1
theorem valF_spec (b : Bd) (o : Opd) : PCalls Tryz.prog 175 [.agg (encBd b), cap (encO o)] (fun v => v = .c (.bool (eqS b.var o.var))) := by
 refine PCalls.intro Tryz.call175 Tryz.func175 rfl Tryz.ntmps175 Tryz.results175 (by simp) ?_
 refine AW.sr (J2 @encBd.eq_1 @cap.eq_1) ?_
 refine AW.sr @encO.eq_1 ?_
 refine AW.ret ?_
 simp only [zs, simprocAttr]
 all_goals exact fn1
theorem bdVal_none {o : Opd} : ∀ {l : List Bd}, (∀ x ∈ l, eqS x.var o.var = false) → bdVal o l = (noVal, false)
 | [], _ => rfl
 | x :: l, h => by rw [bdVal, h x List.mem_cons_self, if_neg Bool.false_ne_true]; exact bdVal_none fun y hy => h y (List.mem_cons_of_mem _ hy)
theorem bdVal_at {o : Opd} : ∀ {l : List Bd} {k : Nat} {x : Bd}, l[k]? = some x → eqS x.var o.var = true → (∀ y ∈ l.take k, eqS y.var o.var = false) → bdVal o l = (opVal o x.ev, true)
  | [], k, x, h, _, _ => by simp at h
  | y :: l, 0, x, h, he, _ => by simp at h; subst h; rw [bdVal, if_pos he]
  | y :: l, k + 1, x, h, he, hn => by
    rw [List.take_succ_cons] at hn
    rw [bdVal, hn y List.mem_cons_self, if_neg Bool.false_ne_true]
    exact bdVal_at (by simpa using h) he fun z hz => hn z (List.mem_cons_of_mem _ hz)
theorem Value_spec (o : Opd) (l : List Bd) (hl : lenB l) (hll : l.length < 4611686018427387904) : PCalls Tryz.prog 146 [.agg (encO o), .agg [.sl (l.map encBd)]] (fun v => v = .tup [.agg (encVal (pVal o l).1), .c (.bool (pVal o l).2)]) := by
 refine PCalls.intro Tryz.call146 Tryz.func146 rfl Tryz.ntmps146 Tryz.results146 (by simp) ?_
 refine AW.seq_j (fun s σ => σ = Hp.empty ∧ s.t 2 = .lp 2 0 ∧ s.l 2 = some (encO o) ∧ s.t 3 = .lp 3 0 ∧ s.l 3 = some [.sl (l.map encBd)] ∧ s.t 4 = .lp 4 0 ∧ s.l 4 = some [.c (.int .i64 0), .c (.int .i64 0), .c (.string ⟨#[]⟩)]) ?_ ?_
 ·skip
  refine AW.reg0 (S.rn @encO.eq_1 ?_)
  simp only [ze, simprocAttr, encO]
  all_goals exact fn1
 rintro s σ ⟨rfl, e2, l2, e3, l3, e4, l4⟩
 refine AW.hushBox l2 (by simp [encO]) ?_
 have f2 : (s.bx 2 (encO o)).t 2 = cap (encO o) := by simp [e2, bxV, cap]
 have f3 : (s.bx 2 (encO o)).t 3 = .lp 3 0 := by simp [e3, bxV]
 have g3 : (s.bx 2 (encO o)).l 3 = some [.sl (l.map encBd)] := by simp [l3]
 have f4 : (s.bx 2 (encO o)).t 4 = .lp 4 0 := by simp [e4, bxV]
 have g4 : (s.bx 2 (encO o)).l 4 = some [.c (.int .i64 0), .c (.int .i64 0), .c (.string ⟨#[]⟩)] := by simp [l4]
 generalize s.bx 2 (encO o) = s at *
 have hov : pVal o l = if o.attr.size = 0 then (o.v, true) else bdVal o l := rfl
 refine AW.seq_k fun K1 h1 => ?_
 all_goals refine AW.sr (J3 f2 @cap.eq_1 @encO.eq_1) ?_
 refine AW.cd (decide (o.attr.size = 0)) (fun hb => ?_) (fun hb => ?_)
 ·have hb := of_decide_eq_true hb
  rw [if_pos hb] at hov
  refine AW.sr (J5 f2 f4 g4 @cap.eq_1 @encO.eq_1) ?_
  refine AW.ret ?_
  simp only [zs, simprocAttr, zz, tt, f4, g4]
  all_goals ((try and_intros) <;> first | rfl | assumption | (((rw [hov]) <;> rfl)))
 have hb := of_decide_eq_false hb
 rw [if_neg hb] at hov
 refine AW.skip ?_
 all_goals simp only [zs, simprocAttr]
 all_goals apply_assumption
 refine AW.seq_j (fun s' σ' => σ' = Hp.empty ∧ s'.t 2 = cap (encO o) ∧ s'.t 3 = .lp 3 0 ∧ s'.l 3 = some [.sl (l.map encBd)] ∧ s'.t 4 = .lp 4 0 ∧ s'.l 4 = some [.c (.int .i64 0), .c (.int .i64 0), .c (.string ⟨#[]⟩)] ∧ s'.t 6 = .c (.int .i64 (idxB (fun b => eqS b.var o.var) 0 l))) ?_ ?_
 ·skip
  refine AW.reg0 ?_
  iterate 3 refine S.one (J6 f2 f3 g3 f4 g4 @cap_ok) ?_
  have q1q := J6 f2 f3 g3 f4 g4 @cap_ok
  refine S.cl q1q (idx174_spec l hll (cap_wk _) (cap_ok _) (fun b _ => valF_spec b o)) ?_
  all_goals refine S.one q1q ?_
  all_goals refine S.nil ?_
  all_goals simp only [ze, simprocAttr, q1q]
  all_goals exact fn1
 rintro s σ ⟨rfl, f2, f3, g3, f4, g4, f6⟩
 refine AW.seq_k fun K4 h4 => ?_
 all_goals refine AW.sr f6 ?_
 refine AW.cd (decide (idxB (fun b => eqS b.var o.var) 0 l < 0)) (fun hc => ?_) (fun hc => ?_)
 ·have hc := of_decide_eq_true hc
  have hv : bdVal o l = (noVal, false) := by
   rcases idxB_cases (fun b : Bd => eqS b.var o.var) l 0 with ⟨_, h⟩ | ⟨k, x, h, _⟩
   ·exact bdVal_none h
   ·omega
  refine AW.sr (J2 f4 g4) ?_
  refine AW.ret ?_
  simp only [zs, simprocAttr, zz, tt, f4, g4]
  all_goals ((try and_intros) <;> first | rfl | assumption | (((rw [hov, hv]) <;> rfl)))
 ·have hc := of_decide_eq_false hc
  rcases idxB_cases (fun b : Bd => eqS b.var o.var) l 0 with ⟨h, _⟩ | ⟨k, x, h, hx, he, hn⟩
  ·omega
  have hv := bdVal_at hx he hn
  have hk : k < l.length := (List.getElem?_eq_some_iff.1 hx).1
  have hg : (l.map encBd).getD k [] = encBd x := by rw [getD_map hk, (List.getElem?_eq_some_iff.1 hx).2]
  have hxa := hl x (List.mem_of_getElem? hx)
  have hop : opVal o x.ev = (getV o.attr x.ev.attrs).1 := by rw [opVal, if_neg hb]
  rw [Nat.zero_add] at h
  rw [h] at f6
  refine AW.skip ?_
  all_goals simp only [zs, simprocAttr]
  all_goals apply_assumption
  refine AW.seq_j (fun s' σ' => σ' = Hp.empty ∧ s'.t 4 = .lp 4 0 ∧ s'.l 4 = some [.c (.int .i64 0), .c (.int .i64 0), .c (.string ⟨#[]⟩)] ∧ s'.t 7 = .lp 7 0 ∧ s'.l 7 = some (encVal (opVal o x.ev))) ?_ ?_
  ·rw [hop]
   refine AW.dT { sd := fun d => d == 3 } (.st 0 0 (.st 2 0 (.st 7 0 (.st 1 1 (.st 3 0 (.st 4 0 (.st 5 0 (.st 6 1 (.st 8 1 (.fork 9 (.st 10 0 (.st 11 0 (.st 12 0 (.st 13 2 (.st 14 2 (.st 15 0 .nil)))))) 13 (.st 9 2 (.st 10 0 (.st 11 0 (.st 12 0 (.st 14 2 (.st 15 0 .nil)))))))))))))))) ?_
   all_goals have q2q := J12 @Bool.or_self f2 f3 g3 f4 g4 f6 hk hg @cap.eq_1 @encO.eq_1 (J3 @encBd.eq_1 @encVal.eq_1 @List.length_map.{0,0})
   all_goals iterate 9 refine T.onf q2q ?_
   all_goals (try refine T.fork ?_ ?_)
   all_goals have q3q := J12 @Bool.or_self f2 f3 g3 f4 g4 f6 hk hg @cap.eq_1 @encO.eq_1 (J3 @encBd.eq_1 @encVal.eq_1 @List.length_map.{0,0})
   all_goals first | (refine T.cl q3q (Get_spec _ _ hxa) ?_) | (refine T.g rfl trivial rfl rfl fun Y Z => ?_; simp only [zz, simprocAttr, -Int.reduceNatCast', -Int.reduceToNat, tt, q3q]; refine Z _ _ ?_; clear Z Y)
   all_goals have q4q := J12 @Bool.or_self f2 f3 g3 f4 g4 f6 hk hg @cap.eq_1 @encO.eq_1 (J3 @encBd.eq_1 @encVal.eq_1 @List.length_map.{0,0})
   all_goals first | (refine T.cl q4q (Get_spec _ _ hxa) ?_) | (refine T.g rfl trivial rfl rfl fun Y Z => ?_; simp only [zz, simprocAttr, -Int.reduceNatCast', -Int.reduceToNat, q4q]; refine Z _ _ ?_; clear Z Y)
   all_goals iterate 2 refine T.onf q4q ?_
   all_goals have q5q := J12 @Bool.or_self f2 f3 g3 f4 g4 f6 hk hg @cap.eq_1 @encO.eq_1 (J3 @encBd.eq_1 @encVal.eq_1 @List.length_map.{0,0})
   all_goals first | (refine T.g rfl trivial rfl rfl fun Y Z => ?_; simp only [zz, simprocAttr, -Int.reduceNatCast', -Int.reduceToNat, tt, q5q]; refine Z _ _ ?_; clear Z Y) | (refine T.g rfl trivial rfl rfl fun Y Z => ?_; simp only [zz, simprocAttr, -Int.reduceNatCast', -Int.reduceToNat, q5q]; refine Z _ _ ?_; clear Z Y)
   all_goals iterate 2 refine T.onf q5q ?_
   all_goals refine T.nil ?_
   all_goals simp only [ze, simprocAttr, q5q]
   all_goals exact fn1
  rintro s σ ⟨rfl, f4, g4, f7, g7⟩
  all_goals refine AW.sr (J5 f4 g4 f7 g7 @encVal.eq_1) ?_
  refine AW.ret ?_
  all_goals simp only [zs, simprocAttr, zz, tt, f4, g4]
  all_goals ((try and_intros) <;> first | rfl | assumption | (((rw [hov, hv]) <;> rfl)))
theorem cond_spec (c : Cnd) (l : List Bd) (hl : lenB l) (hll : l.length < 4611686018427387904) : PCalls Tryz.prog 115 [.agg (encC c), .agg [.sl (l.map encBd)]] (fun v => v = .c (.bool (condB l c))) := by
 refine PCalls.intro Tryz.call115 Tryz.func115 rfl Tryz.ntmps115 Tryz.results115 (by simp) ?_
 refine AW.sr (J2 @encC.eq_1 @encO.eq_1) ?_
 refine AW.seq_k fun K2 h2 => ?_
 refine AW.reg0 ?_
 iterate 3 refine S.one @encVal.eq_1 ?_
 (refine S.g rfl rfl fun Y Z => ?_; simp only [zz, simprocAttr, -Int.reduceNatCast', -Int.reduceToNat, encVal]; (first | refine PCalls.eqto (Value_spec c.l l hl hll) ?_ | refine PCalls.eqto (Value_spec c.r l hl hll) ?_) <;> (refine Z _ _ ?_; clear Z Y))
 all_goals iterate 6 refine S.one @encVal.eq_1 ?_
 all_goals (refine S.nil ?_; simp only [ze, simprocAttr, encVal]; apply_assumption)
 refine AW.seq_k fun K3 h3 => ?_
 all_goals refine AW.reg0 ?_
 all_goals iterate 3 refine S.one @encVal.eq_1 ?_
 all_goals (refine S.g rfl rfl fun Y Z => ?_; simp only [zz, simprocAttr, -Int.reduceNatCast', -Int.reduceToNat, encVal]; (first | refine PCalls.eqto (Value_spec c.l l hl hll) ?_ | refine PCalls.eqto (Value_spec c.r l hl hll) ?_) <;> (refine Z _ _ ?_; clear Z Y))
 all_goals iterate 6 refine S.one @encVal.eq_1 ?_
 all_goals (refine S.nil ?_; simp only [ze, simprocAttr, encVal]; apply_assumption)
 refine AW.seq_j (fun s' σ' => σ' = Hp.empty ∧ s'.t 4 = .c (.bool (condB l c))) ?_ ?_
 ·cases h1 : (pVal c.l l).2 <;> cases h2 : (pVal c.r l).2
  all_goals refine AW.reg0 ?_
  all_goals iterate 11 refine S.one @encVal.eq_1 ?_
  all_goals (first | (refine S.cl @encVal.eq_1 (Holds_spec _ _ _) ?_) | refine S.one trivial ?_)
  all_goals iterate 2 refine S.one @encVal.eq_1 ?_
  all_goals refine S.nil ?_
  all_goals simp only [ze, simprocAttr, encVal]
  all_goals simp_all [condB]
 rintro s σ ⟨rfl, e4⟩
 refine AW.ret ?_
 all_goals simp only [zs, simprocAttr, e4]
 all_goals exact fn1
theorem notc_spec (c : Cnd) (l : List Bd) (hl : lenB l) (hll : l.length < 4611686018427387904) : PCalls Tryz.prog 114 [.agg (encC c), cap [.sl (l.map encBd)]] (fun v => v = .c (.bool (!condB l c))) := by
 refine PCalls.intro Tryz.call114 Tryz.func114 rfl Tryz.ntmps114 Tryz.results114 (by simp) ?_
 refine AW.sr (J3 @encC.eq_1 @encO.eq_1 @cap.eq_1) ?_
 refine AW.seq_k fun K2 h2 => ?_
 refine AW.reg0 ?_
 iterate 2 refine S.one trivial ?_
 refine S.cl trivial (cond_spec c l hl hll) ?_
 all_goals iterate 2 refine S.one trivial ?_
 all_goals (refine S.nil ?_; simp only [ze, simprocAttr]; apply_assumption)
 refine AW.ret ?_
 all_goals simp only [zs, simprocAttr]
 all_goals exact fn1
theorem All_spec (cs : List Cnd) (l : List Bd) (hl : lenB l) (hll : l.length < 4611686018427387904) (hcl : cs.length < 4611686018427387904) : PCalls Tryz.prog 82 [.sl (cs.map encC), .agg [.sl (l.map encBd)]] (fun v => v = .c (.bool (cs.all (condB l)))) := by
 have hany := any99_spec (p := fun c => !condB l c) (c := cap [.sl (l.map encBd)]) (g := 114) cs hcl (cap_wk _) (cap_ok _) (fun c _ => notc_spec c l hl hll)
 rw [any_not] at hany
 refine PCalls.intro Tryz.call82 Tryz.func82 rfl Tryz.ntmps82 Tryz.results82 (by simp) ?_
 refine AW.seq_j (fun s σ => σ = Hp.empty ∧ s.t 0 = .sl (cs.map encC) ∧ s.t 3 = .lp 3 0 ∧ s.l 3 = some [.sl (l.map encBd)]) ?_ ?_
 ·skip
  refine AW.reg0 (S.rn trivial ?_)
  simp only [ze, simprocAttr]
  all_goals exact fn1
 rintro s σ ⟨rfl, e0, e3, l3⟩
 refine AW.hushBox l3 (by simp) ?_
 have f0 : (s.bx 3 [.sl (l.map encBd)]).t 0 = .sl (cs.map encC) := by simp [e0, bxV]
 have f3 : (s.bx 3 [.sl (l.map encBd)]).t 3 = cap [.sl (l.map encBd)] := by simp [e3, bxV, cap]
 generalize s.bx 3 [.sl (l.map encBd)] = s at *
 refine AW.seq_k fun K1 h1 => ?_
 all_goals refine AW.reg0 ?_
 all_goals iterate 2 refine S.one (J4 f0 f3 @cap_ok @Bool.not_not) ?_
 all_goals have q1q := J4 f0 f3 @cap_ok @Bool.not_not
 all_goals refine S.cl q1q hany ?_
 all_goals iterate 2 refine S.one q1q ?_
 all_goals (refine S.nil ?_; simp only [ze, simprocAttr, q1q]; apply_assumption)
 refine AW.ret ?_
 all_goals simp only [zs, simprocAttr]
 all_goals ((try and_intros) <;> first | rfl | assumption | (simp))
end Go.Abs.M
namespace Go.Abs.M
open Go Go.Abs Go.Proofs
set_option maxRecDepth 20000
theorem someB_spec (l : List Bd) (vars : List ByteArray) (hl : l.length < 1048576) (hv : vars.length < 4611686018427387904) : PCalls Tryz.prog 87 [.agg [.sl (l.map encBd)], .sl (vars.map encS)] (fun v => v = .agg [.sl ((ofB l vars).map encBd)]) := by
 refine PCalls.intro Tryz.call87 Tryz.func87 rfl Tryz.ntmps87 Tryz.results87 (by simp) ?_
 refine AW.sr trivial ?_
 refine AW.sr trivial ?_
 refine AW.seq_k fun K3 h3 => ?_
 refine AW.sr @List.length_map.{0,0} ?_
 refine AW.block ?_   -- 0
 refine AW.loop (fun m s σ => ∃ i : Nat, m + i = l.length ∧ s.t 1 = .sl (vars.map encS) ∧ s.t 4 = .lp 4 0 ∧ s.l 4 = some [.c (.slice none 0 0)] ∧ s.t 5 = .lp 5 0 ∧ s.t 9 = .sl (l.map encBd) ∧ s.t 10 = .c (.int .i64 (l.length : Nat)) ∧ s.t 11 = .c (.int .i64 (i : Nat)) ∧ Acc (ofB (l.take i) vars) (s.l 5) σ) l.length ?_ ?_
 ·refine ⟨0, by simp, ?_⟩
  simp only [zs, simprocAttr]
  all_goals ((try and_intros) <;> first | rfl | assumption | (exact .inl ⟨rfl, rfl, rfl⟩))
 rintro m s σ ⟨i, hm, e1, e4, l4, e5, e9, e10, e11, hacc⟩
 all_goals refine AW.sr (J2 e10 e11) ?_
 refine AW.seq_k fun K6 h6 => ?_
 refine AW.cd (decide (i < l.length)) (fun hi => ?_) (fun hi => ?_)
 ·have hi := of_decide_eq_true hi
  obtain ⟨x, hx, hxm, hg, hd⟩ := bd_get hi
  have hw := wadd1 (a := i) (by omega)
  have hst : ofB (l.take (i + 1)) vars = ofB (l.take i) vars ++ if hasS vars x.var then [x] else [] := filter_step (p := fun b => hasS vars b.var) hx
  have hlen : (ofB (l.take i) vars).length ≤ i := filter_take_len i
  have y1 : ((ofB (l.take i) vars).length + 1 ≤ maxLen) = True := eq_true (by unfold maxLen; omega)
  have y2 : (((ofB (l.take i) vars).length + 1) * 80 ≤ reach) = True := eq_true (by unfold reach; omega)
  have y3 : (1 ≤ maxLen) = True := eq_true (by unfold maxLen; omega)
  have y4 : (80 ≤ reach) = True := eq_true (by unfold reach; omega)
  have z1 : (∀ (e : List V), e ∈ [encBd x] → e.length = 6) = True := len_bd1 x
  unfold encBd at z1
  refine AW.skip ?_
  simp only [zs, simprocAttr]
  all_goals apply_assumption
  refine AW.seq_j (fun s' σ' => s'.t 1 = .sl (vars.map encS) ∧ s'.t 4 = .lp 4 0 ∧ s'.l 4 = some [.c (.slice none 0 0)] ∧ s'.t 5 = .lp 5 0 ∧ s'.t 9 = .sl (l.map encBd) ∧ s'.t 10 = .c (.int .i64 (l.length : Nat)) ∧ s'.t 11 = .c (.int .i64 (i : Nat)) ∧ Acc (ofB (l.take (i + 1)) vars) (s'.l 5) σ') ?_ ?_
  ·refine AW.block ?_   -- 1
   refine AW.sr (J11 e1 e4 l4 e5 e9 e10 e11 hi hg @encBd.eq_1 @List.length_map.{0,0}) ?_
   refine AW.seq_k fun K8 h8 => ?_
   refine AW.reg0 ?_
   iterate 3 refine S.one (J8 e1 e4 l4 e5 e9 e10 e11 @encBd.eq_1) ?_
   have q1q := J8 e1 e4 l4 e5 e9 e10 e11 @encBd.eq_1
   refine S.cl q1q (containsS_spec _ _ hv) ?_
   all_goals (refine S.nil ?_; simp only [ze, simprocAttr, q1q]; apply_assumption)
   refine AW.cd (hasS vars x.var) (fun hc => ?_) (fun hc => ?_)
   ·rw [hc, if_pos rfl] at hst
    rcases hacc with ⟨l5, hn, rfl⟩ | ⟨k, l5, rfl⟩
    ·rw [hn] at y1 y2 hst
     refine AW.reg0 ?_
     iterate 4 (refine S.g rfl rfl fun Y Z => ?_; simp only [zb, simprocAttr, -Int.reduceNatCast', -Int.reduceToNat, tt, e1, e4, l4, e5, l5, e9, e10, e11, encBd, z1, y1, y2, y3, y4]; refine Z _ _ ?_; clear Z Y)
     all_goals have q2q := J12 e1 e4 l4 e5 l5 e9 e10 e11 @encBd.eq_1 z1 y1 (J3 y2 y3 y4)
     all_goals (refine S.g rfl rfl fun Y Z => ?_; simp only [zz, simprocAttr, -Int.reduceNatCast', -Int.reduceToNat, tt, q2q]; intro k1 hk1 <;> (refine Z _ _ ?_; clear Z Y))
     all_goals iterate 2 refine S.one q2q ?_
     all_goals refine S.nil ?_
     all_goals simp only [ze, simprocAttr, q2q]
     all_goals exact .inr ⟨k1, rfl, by rw [hst]; rfl⟩
    ·skip
     refine AW.reg0 ?_
     iterate 4 (refine S.g rfl rfl fun Y Z => ?_; simp only [zb, simprocAttr, -Int.reduceNatCast', -Int.reduceToNat, tt, e1, e4, l4, e5, l5, e9, e10, e11, encBd, z1, y1, y2, y3, y4]; refine Z _ _ ?_; clear Z Y)
     all_goals have q3q := J12 e1 e4 l4 e5 l5 e9 e10 e11 @encBd.eq_1 z1 y1 (J3 y2 y3 y4)
     all_goals (refine S.g rfl rfl fun Y Z => ?_; simp only [zz, simprocAttr, -Int.reduceNatCast', -Int.reduceToNat, tt, q3q]; intro k1 hk1 <;> (refine Z _ _ ?_; clear Z Y))
     all_goals iterate 2 refine S.one q3q ?_
     all_goals refine S.nil ?_
     all_goals simp only [ze, simprocAttr, q3q]
     all_goals exact .inr ⟨k1, rfl, by rw [hst, List.map_append]; rfl⟩
   ·rw [hc, if_neg Bool.false_ne_true, List.append_nil] at hst
    refine AW.skip ?_
    simp only [zs, simprocAttr, e1, e4, l4, e5, e9, e10, e11]
    rw [hst]
    all_goals ((try and_intros) <;> first | rfl | assumption | (exact hacc))
  rintro s σ ⟨e1, e4, l4, e5, e9, e10, e11, hacc⟩
  all_goals have q4q := J8 e11 hw e1 e4 l4 e5 e9 e10
  all_goals refine AW.reg0 (S.rn q4q ?_)
  all_goals simp only [ze, simprocAttr, q4q]
  refine ⟨m - 1, by omega, i + 1, by omega, ?_⟩
  all_goals ((try and_intros) <;> first | rfl | assumption | (exact hacc))
 ·have hi := of_decide_eq_false hi
  refine AW.exit ?_
  simp only [zs, simprocAttr]
  all_goals apply_assumption
  rw [List.take_of_length_le (by omega)] at hacc
  rcases hacc with ⟨l5, hn, rfl⟩ | ⟨k, l5, rfl⟩
  ·refine AW.sr (J4 e4 l4 e5 l5) ?_
   refine AW.ret ?_
   simp only [zs, simprocAttr, zz, tt, e4, l4]
   all_goals ((try and_intros) <;> first | rfl | assumption | (((rw [hn]) <;> rfl)))
  ·refine AW.freeze (k := k) (T := (50, 6)) (es := (ofB l vars).map encBd) (by simp only [Hp.setGr_gr, if_true]) ?_
   have hem : (Hp.empty.setGr k (some ((50, 6), (ofB l vars).map encBd))).setGr k none = Hp.empty := by simp
   rw [hem]
   have q5q := J12 @St.fz_t @St.fz_l @fzV.eq_1 @fzV.eq_2 @fz1.eq_1 @fz1.eq_2 @Option.map_some.{0,0} @List.map.eq_1.{0,0} @List.map.eq_2.{0,0} e4 l4 (J2 e5 l5)
   refine AW.sr q5q ?_
   refine AW.ret ?_
   simp only [zs, simprocAttr, zz, tt, q5q]
   all_goals exact fn1
theorem Within_spec (p : Pat) (l : List Bd) (hl : l.length < 1048576) (ht : ∀ b ∈ l, inI64 b.ev.time) (hw : inI64 p.within) : PCalls Tryz.prog 18 [.agg (encPat p), .agg [.sl (l.map encBd)]] (fun v => v = .c (.bool (spanB p l))) := by
 have q1 : ((l.length : Int) > 0) = (0 < l.length) := by rw [eq_iff_iff]; omega
 refine PCalls.intro Tryz.call18 Tryz.func18 rfl Tryz.ntmps18 Tryz.results18 (by simp) ?_
 refine AW.sr @encPat.eq_1 ?_
 refine AW.seq_j (fun s' σ' => σ' = Hp.empty ∧ s'.t 4 = .c (.bool (spanB p l))) ?_ ?_
 ·skip
  refine AW.reg0 ?_
  have q1q := J2 q1 @List.length_map.{0,0}
  iterate 3 refine S.one q1q ?_
  (refine S.sp q1q fun b a8 => ?_; cases b <;> (try exact nope a8))
  all_goals iterate 4 refine S.one q1q ?_
  all_goals have q2q := J2 q1 @List.length_map.{0,0}
  all_goals (first | (refine S.cl q2q (within_spec l p.within (by omega) ht hw) ?_) | refine S.one trivial ?_)
  all_goals iterate 2 refine S.one q2q ?_
  all_goals refine S.nil ?_
  all_goals simp only [ze, simprocAttr, q2q]
  all_goals simp_all [spanB]
 rintro s σ ⟨rfl, e4⟩
 refine AW.ret ?_
 all_goals simp only [zs, simprocAttr, e4]
 all_goals exact fn1
def holdB (p : Pat) (l : List Bd) : Bool := spanB p l && p.conds.all (condB l)
theorem holds_spec (p : Pat) (l : List Bd) (hlb : lenB l) (hl : l.length < 1048576) (ht : ∀ b ∈ l, inI64 b.ev.time) (hw : inI64 p.within) (hcl : p.conds.length < 4611686018427387904) : PCalls Tryz.prog 44 [.agg (encPat p), .agg [.sl (l.map encBd)]] (fun v => v = .c (.bool (holdB p l))) := by
 refine PCalls.intro Tryz.call44 Tryz.func44 rfl Tryz.ntmps44 Tryz.results44 (by simp) ?_
 refine AW.sr @encPat.eq_1 ?_
 refine AW.seq_j (fun s' σ' => σ' = Hp.empty ∧ s'.t 4 = .c (.bool (holdB p l))) ?_ ?_
 ·skip
  refine AW.reg0 ?_
  iterate 2 refine S.one @encPat.eq_1 ?_
  (refine S.cb @encPat.eq_1 (Within_spec p l hl ht hw) fun b a7 => ?_; cases b <;> (try exact nope a7))
  all_goals iterate 4 refine S.one @encPat.eq_1 ?_
  all_goals (first | (refine S.cl @encPat.eq_1 (All_spec p.conds l hlb (by omega) hcl) ?_) | refine S.one trivial ?_)
  all_goals iterate 2 refine S.one @encPat.eq_1 ?_
  all_goals refine S.nil ?_
  all_goals simp only [ze, simprocAttr, encPat]
  all_goals simp_all [holdB]
 rintro s σ ⟨rfl, e4⟩
 refine AW.ret ?_
 all_goals simp only [zs, simprocAttr, e4]
 all_goals exact fn1
def kidsFitP (two : Bool) (p : List Bd) : Int → Nat → List ((List Bd → Bool) × List ByteArray) → Option Nat
  | _, s, [] => some s
  | last, s, (f, vs) :: r => if f (ofB p vs) = false then none else if two && decide (beginOf (ofB p vs) ≤ last) then none else kidsFitP two p (endOf (ofB p vs)) (s + (ofB p vs).length) r
def allFitP (p : List Bd) : Option Nat → Bool
  | some s => s == p.length
  | none => false
def fitsPF (n : Nd) (l : List (List Bd → Bool)) (p : List Bd) : Bool :=
  if n.kind = 1 then leafFits n p else if n.kind = 4 then l.any (fun f => f p) else allFitP p (kidsFitP (decide (n.kind = 2)) p (-1) 0 (l.zip (n.kids.map Nd.vars)))
def Nd.fitsP (n : Nd) : List Bd → Bool := n.para fitsPF
def fitOfP (x : Nd) : (List Bd → Bool) × List ByteArray := (x.fitsP, x.vars)
theorem Nd.fitsP_eq (n : Nd) (p : List Bd) : n.fitsP p = if n.kind = 1 then leafFits n p else if n.kind = 4 then n.kids.any (fun x => x.fitsP p) else allFitP p (kidsFitP (decide (n.kind = 2)) p (-1) 0 (n.kids.map fitOfP)) := by
 have h : n.fitsP = fitsPF n (n.kids.map Nd.fitsP) := Nd.para_eq _ n
 rw [h, fitsPF]
 have hz : ∀ ks : List Nd, (ks.map Nd.fitsP).zip (ks.map Nd.vars) = ks.map fitOfP := fun ks => by
  induction ks with
  | nil => rfl
  | cons x xs ih => rw [List.map_cons, List.map_cons, List.zip_cons_cons, ih]; rfl
 rw [hz, List.any_map]; rfl
theorem _root_.Go.Abs.AW.gen {P : Program} {n : Nat} {c : Code} {Q : Exit → St → Hp → Prop} {s : St} {σ : Hp} (J : St → Prop) (hJ : J s) (h : ∀ s, J s → AW P n c Q s σ) : AW P n c Q s σ := h s hJ
theorem fits1_spec (x : Nd) (p : List Bd) {r : Bool} (h : PCalls Tryz.prog 48 [.agg (encNd x), .agg [.sl (p.map encBd)]] (fun v => v = .c (.bool r))) : PCalls Tryz.prog 86 [.agg (encNd x), cap [.sl (p.map encBd)]] (fun v => v = .c (.bool r)) := by
 refine PCalls.intro Tryz.call86 Tryz.func86 rfl Tryz.ntmps86 Tryz.results86 (by simp) ?_
 refine AW.sr @nd ?_
 refine AW.seq_k fun K2 h2 => ?_
 refine AW.reg0 ?_
 iterate 2 refine S.one (J2 @nd @cap.eq_1) ?_
 have q1q := J2 @nd @cap.eq_1
 refine S.cl q1q h ?_
 all_goals refine S.one q1q ?_
 all_goals (refine S.nil ?_; simp only [ze, simprocAttr, q1q]; apply_assumption)
 refine AW.ret ?_
 all_goals simp only [zs, simprocAttr]
 all_goals exact fn1
theorem fits_spec : ∀ n : Nd, n.small → n.ok → n.err = 0 → ∀ p : List Bd, lenB p → p.length < 1048576 → PCalls Tryz.prog 48 [.agg (encNd n), .agg [.sl (p.map encBd)]] (fun v => v = .c (.bool (n.fitsP p))) := Nd.ind fun n ih hn ho he p hp hpl => by
 have hl := hn.len
 have hE := (encNd_eq n).symm
 have hfe := n.fitsP_eq p
 rw [encNd_eq]
 refine PCalls.intro Tryz.call48 Tryz.func48 rfl Tryz.ntmps48 Tryz.results48 (by simp) ?_
 refine AW.sr trivial ?_
 refine AW.seq_j (fun s' σ' => σ' = Hp.empty ∧ s'.t 2 = .lp 2 0 ∧ s'.l 2 = some [.c (.int .i64 n.kind), .c (.string n.var), .c (.string n.type), .sl (n.tests.map encC), .sl (n.kids.map encNd)] ∧ s'.t 3 = .lp 3 0 ∧ s'.l 3 = some [.sl (p.map encBd)] ∧ ¬ n.kind = 1 ∧ ¬ n.kind = 4) ?_ ?_
 ·refine AW.sr trivial ?_
  refine AW.block ?_   -- 0
  refine AW.sr trivial ?_
  refine AW.cd (n.kind == 1) (fun hk => ?_) (fun hk => ?_)
  ·have hk : n.kind = 1 := by simpa using hk
   rw [if_pos hk] at hfe
   refine AW.seq_j (fun s' σ' => σ' = Hp.empty ∧ s'.t 4 = .c (.bool (leafFits n p))) ?_ ?_
   ·by_cases h1 : p.length = 1
    ·obtain ⟨b, rfl⟩ := List.length_eq_one_iff.1 h1
     have hbe : b.ev.attrs.length < 4611686018427387904 := hp b List.mem_cons_self
     have hterm := Term_spec n b.ev hbe ho.own.len
     rw [encNd_eq] at hterm
     have h01 : ((0 : Int) < ((1 : Nat) : Int)) = True := eq_true (by decide)
     refine AW.dv { sd := fun d => d == 2 || d == 3 } [(0,0),(1,1),(2,0),(3,0),(4,0),(5,0),(10,0),(6,1),(7,0),(8,0),(9,1),(11,1),(12,0),(13,0),(14,0),(16,0),(15,1),(17,1),(18,0),(19,0),(20,1),(21,2),(22,0),(23,0)] ?_
     have q1q := J12 h01 @Int.le_refl @Int.toNat_zero @Nat.zero_lt_one @Nat.lt_add_one @List.length_cons.{0} @List.length_nil.{0} @encBd.eq_1 @List.map_cons.{0,0} @List.map_nil.{0,0} @List.length_singleton.{0} @List.getD_cons_zero.{0}
     refine D.one q1q ?_
     refine D.one q1q ?_
     refine D.one q1q ?_
     (refine D.sp q1q fun b a17 => ?_; cases b <;> (try exact nope a17))
     all_goals iterate 3 refine D.one q1q ?_
     all_goals refine D.one q1q ?_
     all_goals iterate 2 refine D.one q1q ?_
     all_goals iterate 2 refine D.one q1q ?_
     all_goals (first | (refine D.sp q1q fun b a26 => ?_; cases b <;> (try exact nope a26)) | refine D.one trivial ?_)
     all_goals iterate 3 refine D.one q1q ?_
     all_goals iterate 2 refine D.one q1q ?_
     all_goals iterate 2 refine D.one q1q ?_
     all_goals refine D.one q1q ?_
     all_goals have q2q := J12 h01 @Int.le_refl @Int.toNat_zero @Nat.zero_lt_one @Nat.lt_add_one @List.length_cons.{0} @List.length_nil.{0} @encBd.eq_1 @List.map_cons.{0,0} @List.map_nil.{0,0} @List.length_singleton.{0} @List.getD_cons_zero.{0}
     all_goals (first | (refine D.cl q2q hterm ?_) | refine D.one trivial ?_)
     all_goals iterate 2 refine D.one q2q ?_
     all_goals refine D.nil ?_
     all_goals simp only [ze, simprocAttr, q2q]
     all_goals simp_all [leafFits, eqS]
    ·have hlf : leafFits n p = false := by
      match p, h1 with
      | [], _ => rfl
      | _ :: _ :: _, _ => rfl
     refine AW.dv { sd := fun d => d == 2 || d == 3 } [(0,0),(1,1),(2,0),(3,0),(4,0),(5,0),(10,0),(6,1),(7,0),(8,0),(9,1),(11,1),(12,0),(13,0),(14,0),(16,0),(15,1),(17,1),(18,0),(19,0),(20,1),(21,2),(22,0),(23,0)] ?_
     refine D.one @List.length_map.{0,0} ?_
     refine D.one @List.length_map.{0,0} ?_
     refine D.one @List.length_map.{0,0} ?_
     (refine D.sp @List.length_map.{0,0} fun b a17 => ?_; cases b <;> (try exact nope a17))
     all_goals iterate 3 refine D.one @List.length_map.{0,0} ?_
     all_goals refine D.one @List.length_map.{0,0} ?_
     all_goals iterate 2 refine D.one @List.length_map.{0,0} ?_
     all_goals iterate 2 refine D.one @List.length_map.{0,0} ?_
     all_goals (first | (refine D.sp @List.length_map.{0,0} fun b a26 => ?_; cases b <;> (try exact nope a26)) | refine D.one trivial ?_)
     all_goals iterate 3 refine D.one @List.length_map.{0,0} ?_
     all_goals iterate 2 refine D.one @List.length_map.{0,0} ?_
     all_goals iterate 2 refine D.one @List.length_map.{0,0} ?_
     all_goals refine D.one @List.length_map.{0,0} ?_
     all_goals (first | (refine D.cl @List.length_map.{0,0} hterm ?_) | refine D.one trivial ?_)
     all_goals iterate 2 refine D.one @List.length_map.{0,0} ?_
     all_goals refine D.nil ?_
     all_goals simp only [ze, simprocAttr, List.length_map]
     all_goals simp_all
   rintro s σ ⟨rfl, e4⟩
   refine AW.ret ?_
   all_goals simp only [zs, simprocAttr, e4]
   all_goals ((try and_intros) <;> first | rfl | assumption | (rw [hfe]))
  have hk : ¬ n.kind = 1 := by simpa using hk
  rw [if_neg hk] at hfe
  all_goals refine AW.sr trivial ?_
  refine AW.cd (n.kind == 4) (fun h4 => ?_) (fun h4 => ?_)
  ·have h4 : n.kind = 4 := by simpa using h4
   rw [if_pos h4] at hfe
   have hany := any85_spec (p := fun x => x.fitsP p) (c := cap [.sl (p.map encBd)]) (g := 86) n.kids (by omega) (cap_wk _) (cap_ok _) (fun x hxm => fits1_spec x p (ih x hxm (hn.kid hxm) (ho.kid hxm) (Nd.err_kid he hxm) p hp hpl))
   refine AW.gen (fun s => s.t 2 = .lp 2 0 ∧ s.l 2 = some [.c (.int .i64 n.kind), .c (.string n.var), .c (.string n.type), .sl (n.tests.map encC), .sl (n.kids.map encNd)] ∧ s.t 3 = .lp 3 0 ∧ s.l 3 = some [.sl (p.map encBd)]) ?_ ?_
   ·simp only [zs, simprocAttr]
    all_goals exact fn1
   rintro s ⟨e2, l2, e3, l3⟩
   refine AW.hushBox l3 (by simp) ?_
   have f2 : (s.bx 3 [.sl (p.map encBd)]).t 2 = .lp 2 0 := by simp [e2, bxV]
   have f3 : (s.bx 3 [.sl (p.map encBd)]).t 3 = cap [.sl (p.map encBd)] := by simp [e3, bxV, cap]
   have g2 : (s.bx 3 [.sl (p.map encBd)]).l 2 = some [.c (.int .i64 n.kind), .c (.string n.var), .c (.string n.type), .sl (n.tests.map encC), .sl (n.kids.map encNd)] := by simp [l2]
   generalize s.bx 3 [.sl (p.map encBd)] = s at *
   refine AW.seq_k fun K5 h5 => ?_
   all_goals refine AW.reg0 ?_
   all_goals iterate 3 refine S.one (J4 f2 g2 f3 @cap_ok) ?_
   all_goals have q3q := J4 f2 g2 f3 @cap_ok
   all_goals refine S.cl q3q hany ?_
   all_goals refine S.one q3q ?_
   all_goals (refine S.nil ?_; simp only [ze, simprocAttr, q3q]; apply_assumption)
   refine AW.ret ?_
   all_goals simp only [zs, simprocAttr]
   all_goals ((try and_intros) <;> first | rfl | assumption | (rw [hfe]))
  ·have h4 : ¬ n.kind = 4 := by simpa using h4
   refine AW.skip ?_
   simp only [zs, simprocAttr]
   all_goals ((try and_intros) <;> first | rfl | assumption | (exact ⟨hk, h4⟩))
 rintro s σ ⟨rfl, e2, l2, e3, l3, hk, h4⟩
 rw [if_neg hk, if_neg h4] at hfe
 all_goals refine AW.sr trivial ?_
 all_goals refine AW.sr trivial ?_
 refine AW.seq_k fun K8 h8 => ?_
 all_goals refine AW.sr (J3 e2 l2 @List.length_map.{0,0}) ?_
 refine AW.block ?_   -- 1
 refine AW.loop (fun m s' σ => σ = Hp.empty ∧ ∃ (i sum : Nat) (last : Int), m + i = n.kids.length ∧ sum ≤ i * 1048576 ∧ n.fitsP p = allFitP p (kidsFitP (decide (n.kind = 2)) p last sum ((n.kids.drop i).map fitOfP)) ∧ s'.t 2 = .lp 2 0 ∧ s'.l 2 = some [.c (.int .i64 n.kind), .c (.string n.var), .c (.string n.type), .sl (n.tests.map encC), .sl (n.kids.map encNd)] ∧ s'.t 3 = .lp 3 0 ∧ s'.l 3 = some [.sl (p.map encBd)] ∧ s'.t 5 = .c (.int .i64 (sum : Nat)) ∧ s'.t 6 = .c (.int .i64 last) ∧ s'.t 44 = .sl (n.kids.map encNd) ∧ s'.t 45 = .c (.int .i64 (n.kids.length : Nat)) ∧ s'.t 46 = .c (.int .i64 (i : Nat))) n.kids.length ?_ ?_
 ·refine ⟨rfl, 0, 0, -1, by simp, by simp, hfe, ?_⟩
  simp only [zs, simprocAttr, e2, l2, e3, l3]
  all_goals exact fn1
 rintro m s σ ⟨rfl, i, sum, last, hm, hsum, hq, e2, l2, e3, l3, e5, e6, e44, e45, e46⟩
 all_goals refine AW.sr (J2 e45 e46) ?_
 refine AW.seq_k fun K11 h11 => ?_
 refine AW.cd (decide (i < n.kids.length)) (fun hi => ?_) (fun hi => ?_)
 ·have hi := of_decide_eq_true hi
  obtain ⟨x, hx, hxm, hg⟩ := kid_get hi
  have hw := wadd1 (a := i) (by omega)
  have hql : (ofB p x.vars).length < 1048576 := Nat.lt_of_le_of_lt (ofB_len _ _) hpl
  have hxv := x.vars_size
  have hxs : x.size ≤ 1048576 := hn.kid hxm
  rw [kid_drop hx, List.map_cons, fitOfP, kidsFitP] at hq
  refine AW.skip ?_
  simp only [zs, simprocAttr]
  all_goals apply_assumption
  refine AW.seq_k fun K12 h12 => ?_
  refine AW.block ?_   -- 2
  refine AW.sr (J12 e2 l2 e3 l3 e5 e6 e44 e45 e46 hi hg (J2 @nd @List.length_map.{0,0})) ?_
  refine AW.seq_j (fun s' σ' => σ' = Hp.empty ∧ s'.t 2 = .lp 2 0 ∧ s'.l 2 = some [.c (.int .i64 n.kind), .c (.string n.var), .c (.string n.type), .sl (n.tests.map encC), .sl (n.kids.map encNd)] ∧ s'.t 3 = .lp 3 0 ∧ s'.l 3 = some [.sl (p.map encBd)] ∧ s'.t 5 = .c (.int .i64 (sum : Nat)) ∧ s'.t 6 = .c (.int .i64 last) ∧ s'.t 44 = .sl (n.kids.map encNd) ∧ s'.t 45 = .c (.int .i64 (n.kids.length : Nat)) ∧ s'.t 46 = .c (.int .i64 (i : Nat)) ∧ s'.t 8 = .lp 8 0 ∧ s'.l 8 = some (encNd x) ∧ s'.t 9 = .lp 9 0 ∧ s'.l 9 = some [.sl ((ofB p x.vars).map encBd)]) ?_ ?_
  ·skip
   refine AW.dT { sd := fun d => d == 2 || d == 3 || d == 8 } (.st 0 1 (.st 1 1 (.fork 2 (.fork 3 (.st 4 2 (.st 5 2 .nil)) 4 (.st 3 2 (.st 5 2 .nil))) 4 (.st 2 2 (.st 3 2 (.st 5 2 .nil)))))) ?_
   all_goals iterate 2 refine T.onf (J12 @Bool.or_self @kill.eq_1 @kill.eq_2 e2 l2 e3 l3 e5 e6 e44 e45 (J3 e46 @nd @List.length_map.{0,0})) ?_
   all_goals (try refine T.fork ?_ ?_)
   all_goals have q4q := J12 @Bool.or_self @kill.eq_1 @kill.eq_2 e2 l2 e3 l3 e5 e6 e44 e45 (J3 e46 @nd @List.length_map.{0,0})
   all_goals first | (refine T.cl q4q (Vars_spec (hn.kid hxm) (Nd.err_kid he hxm)) ?_) | (refine T.g rfl trivial rfl rfl fun Y Z => ?_; simp only [zz, simprocAttr, -Int.reduceNatCast', -Int.reduceToNat, tt, q4q]; refine Z _ _ ?_; clear Z Y)
   all_goals (try refine T.fork ?_ ?_)
   all_goals have q5q := J12 @Bool.or_self @kill.eq_1 @kill.eq_2 e2 l2 e3 l3 e5 e6 e44 e45 (J3 e46 @nd @List.length_map.{0,0})
   all_goals first | (refine T.cl q5q (someB_spec p x.vars hpl (by omega)) ?_) | (refine T.cl q5q (Vars_spec (hn.kid hxm) (Nd.err_kid he hxm)) ?_) | (refine T.g rfl trivial rfl rfl fun Y Z => ?_; simp only [zz, simprocAttr, -Int.reduceNatCast', -Int.reduceToNat, tt, q5q]; refine Z _ _ ?_; clear Z Y)
   all_goals have q6q := J12 @Bool.or_self @kill.eq_1 @kill.eq_2 e2 l2 e3 l3 e5 e6 e44 e45 (J3 e46 @nd @List.length_map.{0,0})
   all_goals first | (refine T.cl q6q (someB_spec p x.vars hpl (by omega)) ?_) | (refine T.g rfl trivial rfl rfl fun Y Z => ?_; simp only [zz, simprocAttr, -Int.reduceNatCast', -Int.reduceToNat, tt, q6q]; refine Z _ _ ?_; clear Z Y)
   all_goals refine T.onf q6q ?_
   all_goals refine T.nil ?_
   all_goals simp only [ze, simprocAttr, q6q]
   all_goals exact fn1
  rintro s σ ⟨rfl, e2, l2, e3, l3, e5, e6, e44, e45, e46, e8, l8, e9, l9⟩
  have hqe : lenB (ofB p x.vars) := ofB_ev hp _
  generalize hqq : ofB p x.vars = q at *
  refine AW.seq_k fun K14 h14 => ?_
  refine AW.seq_j (fun s' σ' => σ' = Hp.empty ∧ s'.t 2 = .lp 2 0 ∧ s'.l 2 = some [.c (.int .i64 n.kind), .c (.string n.var), .c (.string n.type), .sl (n.tests.map encC), .sl (n.kids.map encNd)] ∧ s'.t 3 = .lp 3 0 ∧ s'.l 3 = some [.sl (p.map encBd)] ∧ s'.t 5 = .c (.int .i64 (sum : Nat)) ∧ s'.t 6 = .c (.int .i64 last) ∧ s'.t 44 = .sl (n.kids.map encNd) ∧ s'.t 45 = .c (.int .i64 (n.kids.length : Nat)) ∧ s'.t 46 = .c (.int .i64 (i : Nat)) ∧ s'.t 9 = .lp 9 0 ∧ s'.l 9 = some [.sl (q.map encBd)] ∧ s'.t 68 = .c (.bool (!(x.fitsP q) || (decide (n.kind = 2) && decide (beginOf q ≤ last))))) ?_ ?_
  ·skip
   refine AW.reg0 ?_
   iterate 2 refine S.one (J12 e2 l2 e3 l3 e5 e6 e44 e45 e46 e8 l8 (J3 e9 l9 @nd)) ?_
   have q7q := J12 e2 l2 e3 l3 e5 e6 e44 e45 e46 e8 l8 (J3 e9 l9 @nd)
   (refine S.cb q7q (ih x hxm (hn.kid hxm) (ho.kid hxm) (Nd.err_kid he hxm) q hqe hql) fun b a56 => ?_; cases b <;> (try exact nope a56))
   all_goals iterate 4 refine S.one q7q ?_
   all_goals (first | (refine S.sp q7q fun b a61 => ?_; cases b <;> (try exact nope a61)) | refine S.one trivial ?_)
   all_goals iterate 2 refine S.one q7q ?_
   all_goals have q8q := J12 e2 l2 e3 l3 e5 e6 e44 e45 e46 e8 l8 (J3 e9 l9 @nd)
   all_goals (first | (refine S.cl q8q (begin_spec q (by omega)) ?_) | refine S.one trivial ?_)
   all_goals iterate 4 refine S.one q8q ?_
   all_goals refine S.nil ?_
   all_goals simp only [ze, simprocAttr, q8q]
   all_goals simp_all
  rintro s σ ⟨rfl, e2, l2, e3, l3, e5, e6, e44, e45, e46, e9, l9, e68⟩
  refine AW.cond (b := !(x.fitsP q) || (decide (n.kind = 2) && decide (beginOf q ≤ last))) e68 (fun hc => ?_) (fun hc => ?_)
  ·have hf : n.fitsP p = false := by
    rw [hq]
    cases hxf : x.fitsP q
    ·rw [if_pos rfl]; rfl
    ·rw [hxf] at hc
     rw [if_neg (by simp), if_pos (by simpa using hc)]; rfl
   refine AW.sr trivial ?_
   refine AW.ret ?_
   simp only [zs, simprocAttr]
   all_goals ((try and_intros) <;> first | rfl | assumption | (rw [hf]))
  have hc1 : x.fitsP q = true := by
   cases h : x.fitsP q
   ·rw [h] at hc; cases hc
   ·rfl
  have hc2 : (decide (n.kind = 2) && decide (beginOf q ≤ last)) = false := by rw [hc1] at hc; simpa using hc
  rw [if_neg (by rw [hc1]; simp), if_neg (by rw [hc2]; exact Bool.false_ne_true)] at hq
  refine AW.skip ?_
  all_goals simp only [zs, simprocAttr]
  all_goals apply_assumption
  have hsw := wadd (a := sum) (b := q.length) (by omega)
  all_goals refine AW.sr (J5 e5 e9 l9 hsw @List.length_map.{0,0}) ?_
  all_goals refine AW.reg0 ?_
  all_goals refine S.one (J2 e9 l9) ?_
  all_goals refine S.cl (J2 e9 l9) (end_spec q (by omega)) ?_
  all_goals refine S.one (J2 e9 l9) ?_
  all_goals (refine S.nil ?_; simp only [ze, simprocAttr, e9, l9]; apply_assumption)
  all_goals have q9q := J8 e46 hw e2 l2 e3 l3 e44 e45
  all_goals refine AW.reg0 (S.rn q9q ?_)
  all_goals simp only [ze, simprocAttr, q9q]
  refine ⟨m - 1, by omega, i + 1, sum + q.length, endOf q, by omega, by omega, hq, ?_⟩
  all_goals exact fn1
 ·have hi := of_decide_eq_false hi
  have q9 : ((sum : Int) == (p.length : Int)) = (sum == p.length) := by rw [Bool.eq_iff_iff, beq_iff_eq, beq_iff_eq]; omega
  refine AW.exit ?_
  simp only [zs, simprocAttr]
  all_goals apply_assumption
  rw [List.drop_of_length_le (by omega), List.map_nil, kidsFitP] at hq
  have hq : n.fitsP p = (sum == p.length) := hq
  refine AW.sr (J5 e3 l3 e5 q9 @List.length_map.{0,0}) ?_
  refine AW.ret ?_
  simp only [zs, simprocAttr]
  all_goals ((try and_intros) <;> first | rfl | assumption | (rw [hq]))
def Nd.FitsP (n : Nd) (p : List Bd) : Bool := decide (n.shape = 0) && decide (n.binds = 0) && decide (partErr p = 0) && n.fitsP p
theorem Fits_spec (n : Nd) (p : List Bd) (hn : n.small) (ho : n.ok) (hp : okP p) (hpe : lenB p) (hpl : p.length < 1048576) : PCalls Tryz.prog 16 [.agg (encNd n), .agg [.sl (p.map encBd)]] (fun v => v = .c (.bool (n.FitsP p))) := by
 refine PCalls.intro Tryz.call16 Tryz.func16 rfl Tryz.ntmps16 Tryz.results16 (by simp) ?_
 refine AW.sr @nd ?_
 refine AW.seq_j (fun s' σ' => σ' = Hp.empty ∧ s'.t 4 = .c (.bool (n.FitsP p))) ?_ ?_
 ·by_cases hs : n.shape = 0
  ·have he := shape_err hs
   refine AW.reg0 ?_
   refine S.one @nd ?_
   refine S.cl @nd (Shape_spec n hn ho) ?_
   all_goals (refine S.sp @nd fun b a7 => ?_; cases b <;> (try exact nope a7))
   all_goals iterate 2 refine S.one @nd ?_
   all_goals (first | (refine S.cl @nd (Binds_spec n hn he) ?_) | refine S.one trivial ?_)
   all_goals (first | (refine S.sp @nd fun b a11 => ?_; cases b <;> (try exact nope a11)) | refine S.one trivial ?_)
   all_goals iterate 3 refine S.one @nd ?_
   all_goals (first | (refine S.cl @nd (check_part p hp) ?_) | refine S.one trivial ?_)
   all_goals (first | (refine S.sp @nd fun b a16 => ?_; cases b <;> (try exact nope a16)) | refine S.one trivial ?_)
   all_goals iterate 4 refine S.one @nd ?_
   all_goals (first | (refine S.cl @nd (fits_spec n hn ho he p hpe hpl) ?_) | refine S.one trivial ?_)
   all_goals iterate 2 refine S.one @nd ?_
   all_goals refine S.nil ?_
   all_goals simp only [ze, simprocAttr, nd]
   all_goals simp_all [Nd.FitsP]
  ·have hsf : (n.shape == 0) = false := by simpa using hs
   refine AW.reg0 ?_
   refine S.one (J2 @nd hsf) ?_
   refine S.cl (J2 @nd hsf) (Shape_spec n hn ho) ?_
   all_goals (refine S.sp (J2 @nd hsf) fun b a7 => ?_; cases b <;> (try exact nope a7))
   all_goals iterate 2 refine S.one (J2 @nd hsf) ?_
   all_goals (first | (refine S.cl (J2 @nd hsf) (Binds_spec n hn he) ?_) | refine S.one trivial ?_)
   all_goals (first | (refine S.sp (J2 @nd hsf) fun b a11 => ?_; cases b <;> (try exact nope a11)) | refine S.one trivial ?_)
   all_goals iterate 3 refine S.one (J2 @nd hsf) ?_
   all_goals (first | (refine S.cl (J2 @nd hsf) (check_part p hp) ?_) | refine S.one trivial ?_)
   all_goals (first | (refine S.sp (J2 @nd hsf) fun b a16 => ?_; cases b <;> (try exact nope a16)) | refine S.one trivial ?_)
   all_goals iterate 4 refine S.one (J2 @nd hsf) ?_
   all_goals (first | (refine S.cl (J2 @nd hsf) (fits_spec n hn ho he p hpe hpl) ?_) | refine S.one trivial ?_)
   all_goals iterate 2 refine S.one (J2 @nd hsf) ?_
   all_goals refine S.nil ?_
   all_goals simp only [ze, simprocAttr, nd, hsf]
   all_goals simp_all [Nd.FitsP]
 rintro s σ ⟨rfl, e4⟩
 refine AW.ret ?_
 all_goals simp only [zs, simprocAttr, e4]
 all_goals exact fn1
def isP (p : Pat) (l : List Bd) : Bool := decide (patErr p = 0) && p.node.FitsP l && holdB p l
theorem Is_spec (p : Pat) (l : List Bd) (hp : okPat p) (hl : okP l) (hpe : lenB l) (hpl : l.length < 1048576) (ht : ∀ b ∈ l, inI64 b.ev.time) (hw : inI64 p.within) : PCalls Tryz.prog 14 [.agg (encPat p), .agg [.sl (l.map encBd)]] (fun v => v = .c (.bool (isP p l))) := by
 have hE := (encNd_eq p.node).symm
 have hwith := holds_spec p l hpe hpl ht hw hp.len
 refine PCalls.intro Tryz.call14 Tryz.func14 rfl Tryz.ntmps14 Tryz.results14 (by simp) ?_
 refine AW.sr @encPat.eq_1 ?_
 refine AW.seq_j (fun s' σ' => σ' = Hp.empty ∧ s'.t 4 = .c (.bool (isP p l))) ?_ ?_
 ·skip
  refine AW.reg0 ?_
  refine S.one (J2 hE @nd) ?_
  refine S.cl (J2 hE @nd) (Pattern_spec p hp) ?_
  all_goals (refine S.sp (J2 hE @nd) fun b a7 => ?_; cases b <;> (try exact nope a7))
  all_goals iterate 4 refine S.one (J2 hE @nd) ?_
  all_goals (first | (refine S.cb (J2 hE @nd) (Fits_spec p.node l hp.small hp.ok hl hpe hpl) fun b a12 => ?_; cases b <;> (try exact nope a12)) | refine S.one trivial ?_)
  all_goals iterate 4 refine S.one (J2 hE @nd) ?_
  all_goals (first | (refine S.cl (J2 hE @nd) hwith ?_) | refine S.one trivial ?_)
  all_goals iterate 2 refine S.one (J2 hE @nd) ?_
  all_goals refine S.nil ?_
  all_goals simp only [ze, simprocAttr, hE, nd]
  all_goals simp_all [isP]
 rintro s σ ⟨rfl, e4⟩
 refine AW.ret ?_
 all_goals simp only [zs, simprocAttr, e4]
 all_goals exact fn1
end Go.Abs.M
namespace Go.Abs.M
open Go Go.Abs Go.Proofs
variable [Mode]
set_option maxRecDepth 20000
theorem sortNil_spec : PCalls Tryz.prog 102 [.sl [], .fn (.func 103) [] []] (fun v => v = .tup []) := by
 refine ⟨(Tryz.sort102.f6).enters rfl, fun cx w xs hH ha => ?_⟩
 obtain ⟨hn, ha⟩ := ha
 match xs, hn with
 | [x0, x1], _ =>
 have h0 := ha 0 _ _ rfl rfl
 obtain ⟨p, cap, e0⟩ : ∃ p cap, x0 = .slice p 0 cap := by
  generalize hu : V.sl [] = u at h0
  cases h0 with
  | nils => exact ⟨_, _, rfl⟩
  | nile a => exact ⟨_, _, rfl⟩
  | sl f h1 h2 h3 h4 h5 h6 => injection hu with hu; subst hu; exact ⟨_, _, rfl⟩
  | _ => cases hu
 subst e0
 exact (AnyF.slices_SortFunc_none (P := Tryz.prog) (ρ := Tryz.sort102_ren) Tryz.sort102 p cap x1 w).mono fun e w' ⟨he, hw⟩ => by
  subst hw
  exact ⟨.tup [], _, cx, Hp.empty, he, .tup rfl (fun i v x hv => by cases hv), ⟨hH, .refl _ _ _, fun _ x hx => .inl ⟨x, hx⟩, fun _ x hx => .inl ⟨x, hx⟩⟩, rfl, rfl⟩
theorem compactNil_spec : PCalls Tryz.prog 104 [.sl [], .fn (.func 105) [] []] (fun v => v = .sl []) := by
 refine PCalls.intro Tryz.call104 Tryz.func104 rfl Tryz.ntmps104 Tryz.results104 (by simp) ?_
 refine AW.sr trivial ?_
 refine AW.seq_k fun K2 h2 => ?_
 refine AW.sr trivial ?_
 refine AW.cd true (fun _ => ?_) (fun h => by cases h)
 all_goals refine AW.sr trivial ?_
 refine AW.ret ?_
 all_goals simp only [zs, simprocAttr]
 all_goals exact fn1
def hpF (g : Nat) (evs : List Ev) (full : Bool) : Hp := Hp.empty.setObj g (some [.sl (evs.map encEv), .c (.bool full)])
def OwnP (σ : Hp) (l : List (List Bd)) (v : V) (σ' : Hp) : Prop := (v = .sl [] ∧ l = [] ∧ σ' = σ) ∨ ∃ k, v = .gl k ∧ σ.gr k = none ∧ σ' = hpP σ k l
theorem hpF_gr (g : Nat) (evs : List Ev) (full : Bool) (k : Nat) : (hpF g evs full).gr k = none := rfl
theorem hpF_set (g : Nat) (evs : List Ev) (full : Bool) (k : Nat) : (hpF g evs full).setGr k none = hpF g evs full := Hp.setGr_none (hpF_gr g evs full k)
theorem hpF_full (g : Nat) (evs : List Ev) (a b : Bool) : (hpF g evs a).setObj g (some [.sl (evs.map encEv), .c (.bool b)]) = hpF g evs b := by simp [hpF]
theorem hpPF_full (g : Nat) (evs : List Ev) (a b : Bool) (k : Nat) (l : List (List Bd)) : (hpP (hpF g evs a) k l).setObj g (some [.sl (evs.map encEv), .c (.bool b)]) = hpP (hpF g evs b) k l := by
 simp only [hpP, hpF, Hp.setObj, Hp.setGr, Hp.mk.injEq, and_true]
 funext j
 by_cases h : j = g <;> simp [h]
theorem hpPF_obj (g : Nat) (evs : List Ev) (full : Bool) (k : Nat) (l : List (List Bd)) : (hpP (hpF g evs full) k l).obj g = some [.sl (evs.map encEv), .c (.bool full)] := by simp [hpP, hpF]
theorem hpF_obj (g : Nat) (evs : List Ev) (full : Bool) : (hpF g evs full).obj g = some [.sl (evs.map encEv), .c (.bool full)] := by simp [hpF]
theorem map3 (evs : List Ev) (b : Bool) : isMap [.sl (evs.map encEv), .c (.bool b)] = false := rfl
theorem onceNil_spec (g : Nat) (evs : List Ev) (full : Bool) : ACalls Tryz.prog 69 [ptrV g, .sl []] (hpF g evs full) (fun v σ' => v = .sl [] ∧ σ' = hpF g evs full) := by
 have hsortN := sortNil_spec.at (hpF g evs full)
 have hcompN := compactNil_spec.at (hpF g evs full)
 have ho := hpF_obj g evs full
 have hfull := hpF_full g evs full full
 have hm := map3 evs full
 generalize hsg : hpF g evs full = σ0 at *
 refine ACalls.intro Tryz.call69 Tryz.func69 rfl Tryz.ntmps69 Tryz.results69 (by simp) ?_
 refine AW.sr @ptrV.eq_1 ?_
 refine AW.seq_k fun K2 h2 => ?_
 refine AW.reg0 ?_
 refine S.one @ptrV.eq_1 ?_
 (refine S.g rfl rfl fun Y Z => ?_; simp only [zz, simprocAttr, -Int.reduceNatCast', -Int.reduceToNat, ptrV]; (first | (refine ACalls.to hsortN ?_; rintro _ _ ⟨rfl, rfl⟩) | (refine ACalls.to hsort ?_; rintro _ _ ⟨rfl, l', hperm, hsrt, rfl⟩)) <;> (refine Z _ _ ?_; clear Z Y))
 all_goals (refine S.nil ?_; simp only [ze, simprocAttr, ptrV]; apply_assumption)
 refine AW.seq_k fun K3 h3 => ?_
 all_goals refine AW.reg0 ?_
 all_goals refine S.one @ptrV.eq_1 ?_
 all_goals (refine S.g rfl rfl fun Y Z => ?_; simp only [zz, simprocAttr, -Int.reduceNatCast', -Int.reduceToNat, ptrV]; (first | (refine ACalls.to hcompN ?_; rintro _ _ ⟨rfl, rfl⟩) | (refine ACalls.to hcomp ?_; rintro _ _ ⟨k2, rfl, hk2, rfl⟩)) <;> (refine Z _ _ ?_; clear Z Y))
 all_goals refine S.one @ptrV.eq_1 ?_
 all_goals (refine S.nil ?_; simp only [ze, simprocAttr, ptrV]; apply_assumption)
 have q0 : ((0 : Int) > 4096) = False := by simp
 cases full
 ·refine AW.sr (J7 @ptrV.eq_1 ho hm q0 @Int.ofNat_zero @decide_false hfull) ?_
  refine AW.sr trivial ?_
  refine AW.ret ?_
  simp only [zs, simprocAttr]
  all_goals exact fn1
 ·refine AW.sr (J5 @ptrV.eq_1 ho hm q0 hfull) ?_
  refine AW.sr trivial ?_
  refine AW.ret ?_
  simp only [zs, simprocAttr]
  all_goals exact fn1
theorem once_spec {U : List Bd → Prop} (hS : Apt U) (g : Nat) (evs : List Ev) (full : Bool) (k : Nat) (l : List (List Bd)) (hlS : ∀ p ∈ l, U p) (hl : l.length < 4611686018427387904) (hlen : ∀ p ∈ l, p.length < 4611686018427387904) :
  ACalls Tryz.prog 69 [ptrV g, .gl k] (hpP (hpF g evs full) k l) (fun v σ' => OwnP (hpF g evs (full || decide (4096 < (norm l).length))) (norm l) v σ') := by
 have hsort := sort_spec (σ := hpP (hpF g evs full) k l) (k := k) (l := l) (by simp [hpP]) hl hlen
 have hss : ∀ l' : List (List Bd), hpP (hpP (hpF g evs full) k l) k l' = hpP (hpF g evs full) k l' := fun l' => by simp [hpP]
 refine ACalls.intro Tryz.call69 Tryz.func69 rfl Tryz.ntmps69 Tryz.results69 (by simp) ?_
 refine AW.sr @ptrV.eq_1 ?_
 refine AW.seq_k fun K2 h2 => ?_
 refine AW.reg0 ?_
 refine S.one @ptrV.eq_1 ?_
 (refine S.g rfl rfl fun Y Z => ?_; simp only [zz, simprocAttr, -Int.reduceNatCast', -Int.reduceToNat, ptrV]; (first | (refine ACalls.to hsortN ?_; rintro _ _ ⟨rfl, rfl⟩) | (refine ACalls.to hsort ?_; rintro _ _ ⟨rfl, l', hperm, hsrt, rfl⟩)) <;> (refine Z _ _ ?_; clear Z Y))
 all_goals (refine S.nil ?_; simp only [ze, simprocAttr, ptrV]; apply_assumption)
 rw [hss]
 have hcomp := compact_spec (σ0 := hpF g evs full) (k := k) l' (by rw [hperm.length_eq]; exact hl) (fun p hp => hlen p (hperm.subset hp))
 rw [compact_norm hS hlS hperm hsrt] at hcomp
 refine AW.seq_k fun K3 h3 => ?_
 all_goals refine AW.reg0 ?_
 all_goals refine S.one @ptrV.eq_1 ?_
 all_goals (refine S.g rfl rfl fun Y Z => ?_; simp only [zz, simprocAttr, -Int.reduceNatCast', -Int.reduceToNat, ptrV]; (first | (refine ACalls.to hcompN ?_; rintro _ _ ⟨rfl, rfl⟩) | (refine ACalls.to hcomp ?_; rintro _ _ ⟨k2, rfl, hk2, rfl⟩)) <;> (refine Z _ _ ?_; clear Z Y))
 all_goals refine S.one @ptrV.eq_1 ?_
 all_goals (refine S.nil ?_; simp only [ze, simprocAttr, ptrV]; apply_assumption)
 rw [hpF_set]
 have ho := hpPF_obj g evs full k2 (norm l)
 have hg : (hpP (hpF g evs full) k2 (norm l)).gr k2 = some ((40, 1), (norm l).map encP) := by simp [hpP]
 have hfull := fun b => hpPF_full g evs full b k2 (norm l)
 have hm := map3 evs full
 have q1 : (((norm l).length : Int) > 4096) = (4096 < (norm l).length) := by rw [eq_iff_iff]; omega
 generalize hsg : hpP (hpF g evs full) k2 (norm l) = σ0 at *
 cases full
 ·refine AW.sr (J7 @ptrV.eq_1 ho hg hm q1 @List.length_map.{0,0} hfull) ?_
  refine AW.sr trivial ?_
  refine AW.ret ?_
  simp only [zs, simprocAttr]
  exact .inr ⟨k2, rfl, rfl, by simp⟩
 ·refine AW.sr (J7 @ptrV.eq_1 ho hg hm q1 @List.length_map.{0,0} hfull) ?_
  refine AW.sr trivial ?_
  refine AW.ret ?_
  simp only [zs, simprocAttr]
  exact .inr ⟨k2, rfl, rfl, by rw [Bool.true_or]⟩
end Go.Abs.M
namespace Go.Abs.M
open Go Go.Abs Go.Proofs
def rowP (two : Bool) (vs : List ByteArray) (b : List (List Bd)) (p : List Bd) : List (List Bd) := b.filterMap fun q => if two && decide (beginOf q ≤ endOf (ofB p vs)) then none else mg p q
def pairsP (two : Bool) (vs : List ByteArray) (a b : List (List Bd)) : List (List Bd) := a.flatMap (rowP two vs b)
def joinP (two : Bool) : Option (List (List Bd) × List ByteArray) → List (Option (List (List Bd)) × List ByteArray) → Option (List (List Bd))
  | acc, [] => some ((acc.map Prod.fst).getD [])
  | _, (none, _) :: _ => none
  | none, (some l, vs) :: r => joinP two (some (l, vs)) r
  | some (a, vs0), (some l, vs) :: r => (capL (norm (pairsP two vs0 a l))).bind fun m => joinP two (some (m, vs)) r
def allO : List (Option (List (List Bd))) → Option (List (List Bd))
  | [] => some []
  | none :: _ => none
  | some l :: r => (allO r).map (l ++ ·)
def orP (l : List (Option (List (List Bd)))) : Option (List (List Bd)) := (allO l).bind fun l => capL (norm l)
def denPF (evs : List Ev) (n : Nd) (l : List (Option (List (List Bd)))) : Option (List (List Bd)) := if n.kind = 1 then some (norm (leafL n evs)) else if n.kind = 4 then orP l else joinP (decide (n.kind = 2)) none (l.zip (n.kids.map Nd.vars))
def Nd.denP (evs : List Ev) (n : Nd) : Option (List (List Bd)) := n.para (denPF evs)
def denOf (evs : List Ev) (x : Nd) : Option (List (List Bd)) × List ByteArray := (x.denP evs, x.vars)
theorem Nd.denP_eq (evs : List Ev) (n : Nd) : n.denP evs = if n.kind = 1 then some (norm (leafL n evs)) else if n.kind = 4 then orP (n.kids.map (Nd.denP evs)) else joinP (decide (n.kind = 2)) none (n.kids.map (denOf evs)) := by
 have h : n.denP evs = denPF evs n (n.kids.map (Nd.denP evs)) := Nd.para_eq _ n
 rw [h, denPF]
 have hz : ∀ ks : List Nd, (ks.map (Nd.denP evs)).zip (ks.map Nd.vars) = ks.map (denOf evs) := fun ks => by
  induction ks with
  | nil => rfl
  | cons x xs ih => rw [List.map_cons, List.map_cons, List.zip_cons_cons, ih]; rfl
 rw [hz]
def Held (σ0 : Hp) (l : List (List Bd)) (v : V) (σ : Hp) : Prop := ((v = .sl [] ∨ v = .c (.slice none 0 0)) ∧ l = [] ∧ σ = σ0) ∨ ∃ k, v = .gl k ∧ σ0.gr k = none ∧ σ = hpP σ0 k l
theorem OwnP.held {σ0 σ : Hp} {l : List (List Bd)} {v : V} (h : OwnP σ0 l v σ) : Held σ0 l v σ := by
 rcases h with ⟨h1, h2, h3⟩ | h
 ·exact .inl ⟨.inl h1, h2, h3⟩
 ·exact .inr h
theorem Held.own {σ0 σ : Hp} {l : List (List Bd)} {v : V} (h : Held σ0 l v σ) (hv : v ≠ .c (.slice none 0 0)) : OwnP σ0 l v σ := by
 rcases h with ⟨h1 | h1, h2, h3⟩ | h
 ·exact .inl ⟨h1, h2, h3⟩
 ·exact absurd h1 hv
 ·exact .inr h
theorem Held.obj {σ0 σ : Hp} {l : List (List Bd)} {v : V} (h : Held σ0 l v σ) (g : Nat) : σ.obj g = σ0.obj g := by
 rcases h with ⟨_, _, rfl⟩ | ⟨k, _, _, rfl⟩ <;> rfl
theorem Held.kill {σ0 σ : Hp} {l : List (List Bd)} {v : V} (h : Held σ0 l v σ) (d : Nat) : kill d v = v := by
 rcases h with ⟨h1 | h1, _⟩ | ⟨k, h1, _⟩ <;> rw [h1] <;> rfl
structure FindQ (evs : List Ev) (n : Nd) (full full' : Bool) (l : List (List Bd)) : Prop where
  of : ∀ p ∈ l, From evs p ∧ okQ p
  len : l.length ≤ 16777216 + 4096 * n.size
  no : full' = false → full = false ∧ n.denP evs = some l ∧ l.length ≤ 4096
  yes : full' = true → full = true ∨ n.denP evs = none
  nil : full = true → l = []
def FindC (g : Nat) (evs : List Ev) (n : Nd) : Prop := ∀ full, ACalls Tryz.prog 38 [ptrV g, .agg (encNd n)] (hpF g evs full) (fun v σ' => ∃ full' l, OwnP (hpF g evs full') l v σ' ∧ FindQ evs n full full' l)
theorem FindC.at {g : Nat} {evs : List Ev} {n : Nd} (h : FindC g evs n) {full : Bool} {a : List (List Bd)} {va : V} {σ : Hp} (ha : Held (hpF g evs full) a va σ) :
    ACalls Tryz.prog 38 [ptrV g, .agg (encNd n)] σ (fun v σ' => ∃ full' l σ1, OwnP (hpF g evs full') l v σ1 ∧ Held σ1 a va σ' ∧ FindQ evs n full full' l) := by
  rcases ha with ⟨hv, rfl, rfl⟩ | ⟨k, rfl, h0, rfl⟩
  · exact (h full).to fun v σ' ⟨full', l, h1, h2⟩ => ⟨full', l, σ', h1, .inl ⟨hv, rfl, rfl⟩, h2⟩
  · have hs : Hp.Le (hpF g evs full) (hpP (hpF g evs full) k a) := ⟨fun _ _ h => h, fun k' x hx => by cases hx⟩
    refine ((h full).frame hs).to fun v σ' ⟨σ1, ⟨full', l, h1, h2⟩, hf, hσ⟩ => ⟨full', l, σ1, h1, .inr ⟨k, rfl, ?_, ?_⟩, h2⟩
    · cases hk : σ1.gr k with
      | none => rfl
      | some x =>
        have := hf.gr k x hk (hpF_gr g evs full k)
        simp [hpP] at this
    · subst hσ
      have hn : σ1.gr k = none := by
        cases hk : σ1.gr k with
        | none => rfl
        | some x =>
          have := hf.gr k x hk (hpF_gr g evs full k)
          simp [hpP] at this
      have hob : ∀ j, σ1.obj j = none → (hpF g evs full).obj j = none := fun j hj => by
        by_cases e : j = g
        · subst e
          have := h1.held.obj j
          rw [hj] at this
          simp [hpF] at this
        · simp [hpF, e, Hp.empty]
      show Hp.over σ1 _ _ = _
      simp only [Hp.over, hpP, Hp.setGr, Hp.mk.injEq]
      constructor
      · funext j
        cases hj : σ1.obj j with
        | some x => rfl
        | none => rw [hob j hj]
      · funext j
        by_cases e : j = k
        · subst e; rw [hn]; simp [hpF_gr]
        · cases hj : σ1.gr j with
          | some x => simp [e]
          | none => simp [e, hpF_gr]
theorem fz_held {σ0 σ1 σ2 : Hp} {b : List (List Bd)} {v : V} {k : Nat} {es : List (List V)} (h : Held σ1 b v σ0) (hk : σ0.gr k = none) : fzV k es v = v := by
 rcases h with ⟨h1 | h1, _⟩ | ⟨k2, h1, _, h2⟩
 ·rw [h1]; rfl
 ·rw [h1]; rfl
 ·rw [h1]
  have : k2 ≠ k := fun e => by subst e; rw [h2] at hk; simp [hpP] at hk
  simp [fzV, fz1, this]
theorem AW.heldP {P : Program} {n : Nat} {c : Code} {Q : Exit → St → Hp → Prop} {s : St} {σ σ0 : Hp} {i : Nat} {a : List (List Bd)} (h : OwnP σ0 a (s.t i) σ)
  (hk : ∀ s' : St, s'.t i = .sl (a.map encP) → (∀ j v, s.t j = v → (∀ k es, fzV k es v = v) → s'.t j = v) → (∀ j σ1 b, Held σ1 b (s.t j) σ0 → s'.t j = s.t j) →
   (∀ d cs, s.l d = some cs → (∀ k es, cs.map (fz1 k es) = cs) → s'.l d = some cs) → AW P n c Q s' σ0) : AW P n c Q s σ := by
 rcases h with ⟨h1, rfl, rfl⟩ | ⟨k, h1, h2, rfl⟩
 ·exact hk s h1 (fun j v h _ => h) (fun _ _ _ _ => rfl) fun d cs h _ => h
 ·refine AW.freeze (k := k) (T := (40, 1)) (es := a.map encP) (by simp [hpP]) ?_
  have hem : (hpP σ0 k a).setGr k none = σ0 := by rw [hpP, Hp.set_none h2]
  rw [hem]
  refine hk _ ?_ (fun j v hj hv => ?_) (fun j σ1 b hb => ?_) fun d cs hd hc => ?_
  ·rw [St.fz_t, h1]; simp [fzV, fz1]
  ·rw [St.fz_t, hj, hv]
  ·rw [St.fz_t]; exact fz_held (σ2 := σ0) hb h2
  ·rw [St.fz_l, hd, Option.map_some, hc]
theorem addP_len (rows : List (List Bd)) (x : List Bd) : (addP rows x).length ≤ rows.length + 1 := by
 unfold addP
 split
 ·omega
 ·rw [insL'_at, List.length_append, List.length_cons, List.length_take, List.length_drop]; omega
theorem norm_len (l : List (List Bd)) : (norm l).length ≤ l.length := by
 have h : ∀ (l a : List (List Bd)), (l.foldl addP a).length ≤ a.length + l.length := fun l => by
  induction l with
  | nil => intro a; exact Nat.le_refl _
  | cons x l ih => intro a; have h1 := ih (addP a x); have h2 := addP_len a x; simp only [List.foldl_cons, List.length_cons] at *; omega
 have := h l []
 simpa [norm] using this
set_option maxRecDepth 20000
def AccH (σ0 : Hp) (l : List (List Bd)) (v : V) (σ : Hp) : Prop := (v = .c (.slice none 0 0) ∧ l = [] ∧ σ = σ0) ∨ ∃ k, v = .gl k ∧ σ0.gr k = none ∧ σ = hpP σ0 k l
theorem AccH.held {σ0 σ : Hp} {l : List (List Bd)} {v : V} (h : AccH σ0 l v σ) : Held σ0 l v σ := by
 rcases h with ⟨h1, h2, h3⟩ | h
 ·exact .inl ⟨.inr h1, h2, h3⟩
 ·exact .inr h
def aheadO (n : Nd) (i : Nat) (acc : List (List Bd)) : Option (List (List Bd) × List ByteArray) := if i = 0 then none else (n.kids[i - 1]?).map fun y => (acc, y.vars)
def okF (evs : List Ev) (p : List Bd) : Prop := From evs p ∧ okQ p
theorem okQ.m {p : List Bd} (h : okQ p) : okM p := ⟨h.ok, fun x hx => by have := h.few x hx; omega⟩
theorem mg_from {evs : List Ev} {p q m : List Bd} (hp : From evs p) (hq : From evs q) (h : mg p q = some m) : From evs m := by
 obtain ⟨_, _, _, _, h5⟩ := ofB_mrg h []
 intro b hb
 rcases List.mem_append.1 (h5.subset hb) with h | h
 ·exact hp b h
 ·exact hq b h
theorem row_ok {evs : List Ev} {two : Bool} {vs : List ByteArray} {b : List (List Bd)} {p : List Bd} (hb : ∀ q ∈ b, okF evs q) (hp : okF evs p) : ∀ m ∈ rowP two vs b p, okF evs m := by
 intro m hm
 obtain ⟨q, hq, h⟩ := List.mem_filterMap.1 hm
 split at h
 ·cases h
 ·exact ⟨mg_from hp.1 (hb q hq).1 h, mg_okQ hp.2 (hb q hq).2 h⟩
theorem row_len (two : Bool) (vs : List ByteArray) (b : List (List Bd)) (p : List Bd) : (rowP two vs b p).length ≤ b.length := List.length_filterMap_le _ _
theorem pairs_ok {evs : List Ev} {two : Bool} {vs : List ByteArray} {a b : List (List Bd)} (ha : ∀ q ∈ a, okF evs q) (hb : ∀ q ∈ b, okF evs q) : ∀ m ∈ pairsP two vs a b, okF evs m := by
 intro m hm
 obtain ⟨p, hp, h⟩ := List.mem_flatMap.1 hm
 exact row_ok hb (ha p hp) m h
theorem pairs_len (two : Bool) (vs : List ByteArray) (a b : List (List Bd)) : (pairsP two vs a b).length ≤ a.length * b.length := by
  induction a with
  | nil => simp [pairsP]
  | cons p a ih =>
    have := row_len two vs b p
    simp only [pairsP, List.flatMap_cons, List.length_append, List.length_cons, Nat.add_mul, Nat.one_mul] at *
    omega
theorem row_step {two : Bool} {vs : List ByteArray} {b : List (List Bd)} {p q : List Bd} {j : Nat} (h : b[j]? = some q) : rowP two vs (b.take (j + 1)) p = rowP two vs (b.take j) p ++ if two && decide (beginOf q ≤ endOf (ofB p vs)) then [] else if optB (mg p q) then [optL (mg p q)] else [] := by
 rw [List.take_add_one, h, rowP, List.filterMap_append]
 congr 1
 show List.filterMap (fun q => if (two && decide (beginOf q ≤ endOf (ofB p vs))) = true then none else mg p q) [q] = _
 rw [List.filterMap_cons]
 cases hl : (two && decide (beginOf q ≤ endOf (ofB p vs)))
 ·rw [if_neg Bool.false_ne_true, if_neg Bool.false_ne_true]
  cases hm : mg p q <;> rfl
 ·rfl
theorem pairs_step {two : Bool} {vs : List ByteArray} {a b : List (List Bd)} {p : List Bd} {i : Nat} (h : a[i]? = some p) : pairsP two vs (a.take (i + 1)) b = pairsP two vs (a.take i) b ++ rowP two vs b p := by
 rw [List.take_add_one, h, pairsP, List.flatMap_append]; simp [pairsP]
theorem joinP_none (two : Bool) (acc : Option (List (List Bd) × List ByteArray)) (vs : List ByteArray) (r : List (Option (List (List Bd)) × List ByteArray)) : joinP two acc ((none, vs) :: r) = none := by cases acc <;> rfl
theorem AW.forget {P : Program} {n : Nat} {c : Code} {Q : Exit → St → Hp → Prop} {s : St} {σ σ0 : Hp} {a : List (List Bd)} {v : V} (h : Held σ0 a v σ) (hw : AW P n c Q s σ0) : AW P n c Q s σ := by
 refine AW.sub (fun g c hg => by rw [h.obj]; exact hg) (fun k x hx => ?_) hw
 rcases h with ⟨_, _, rfl⟩ | ⟨k0, _, h0, rfl⟩
 ·exact hx
 ·have : k ≠ k0 := fun e => by subst e; rw [h0] at hx; cases hx
  simp [hpP, Hp.setGr, this, hx]
theorem joined_spec {evs : List Ev} (hev : okEvs evs) (hdi : Dist evs) (g : Nat) (n : Nd) (hn : n.small) (he : n.err = 0) (hk0 : 0 < n.kids.length) (hk1 : ¬ n.kind = 1) (hk4 : ¬ n.kind = 4) (hf : ∀ x ∈ n.kids, FindC g evs x) :
    ACalls Tryz.prog 70 [ptrV g, .agg (encNd n)] (hpF g evs false) (fun v σ' => ∃ full' l, OwnP (hpF g evs full') l v σ' ∧ FindQ evs n false full' l) := by
  have hl := hn.len
  have hp0 := n.denP_eq evs
  rw [if_neg hk1, if_neg hk4] at hp0
  have hmap := map3 evs
  rw [encNd_eq]
  refine ACalls.intro Tryz.call70 Tryz.func70 rfl Tryz.ntmps70 Tryz.results70 (by simp) ?_
  refine AW.sr trivial ?_
  refine AW.sr trivial ?_
  refine AW.seq_k fun K3 h3 => ?_
  refine AW.sr @List.length_map.{0,0} ?_
  refine AW.block ?_   -- 0
  refine AW.loop (fun m s σ => ∃ (i : Nat) (acc : List (List Bd)) (fl : Bool), m + i = n.kids.length ∧ Held (hpF g evs fl) acc (s.t 5) σ ∧ (i = 0 → s.t 5 = .c (.slice none 0 0) ∧ fl = false) ∧ (0 < i → s.t 5 ≠ .c (.slice none 0 0)) ∧ (∀ p ∈ acc, okF evs p) ∧ acc.length ≤ 16777216 ∧ (fl = false → acc.length ≤ 4096 ∧ n.denP evs = joinP (decide (n.kind = 2)) (aheadO n i acc) ((n.kids.drop i).map (denOf evs))) ∧ (fl = true → n.denP evs = none) ∧ s.t 0 = ptrV g ∧ s.t 3 = .lp 3 0 ∧ s.l 3 = some [.c (.int .i64 n.kind), .c (.string n.var), .c (.string n.type), .sl (n.tests.map encC), .sl (n.kids.map encNd)] ∧ s.t 19 = .sl (n.kids.map encNd) ∧ s.t 20 = .c (.int .i64 (n.kids.length : Nat)) ∧ s.t 21 = .c (.int .i64 (i : Nat))) n.kids.length ?_ ?_
  · refine ⟨0, [], false, by simp, .inl ⟨.inr ?_, rfl, rfl⟩, (fun _ => ⟨?_, rfl⟩), (fun h => absurd h (Nat.lt_irrefl 0)), (fun _ h => by cases h), by simp, (fun _ => ⟨by simp, by simpa [aheadO] using hp0⟩), (fun h => by cases h), ?_⟩
    · simp only [zs, simprocAttr]
    · simp only [zs, simprocAttr]
    all_goals simp only [zs, simprocAttr, ptrV]
    all_goals exact fn1
  rintro m s σ ⟨i, acc, fl, hm, hacc, hi0, hi1, hao, hal, hno, hyes, e0, e3, l3, e19, e20, e21⟩
  have hk5 := fun d => hacc.kill d
  all_goals refine AW.sr (J2 e20 e21) ?_
  refine AW.seq_k fun K6 h6 => ?_
  refine AW.cd (decide (i < n.kids.length)) (fun hi => ?_) (fun hi => ?_)
  · have hi := of_decide_eq_true hi
    obtain ⟨x, hx, hxm, hg⟩ := kid_get hi
    have hw := wadd1 (a := i) (by omega)
    refine AW.skip ?_
    simp only [zs, simprocAttr]
    all_goals apply_assumption
    refine AW.seq_k fun K7 h7 => ?_
    refine AW.block ?_   -- 1
    refine AW.sr (J12 e0 e3 l3 e19 e20 e21 hk5 hi hg @nd @ptrV.eq_1 @List.length_map.{0,0}) ?_
    have hobj : σ.obj g = some [.sl (evs.map encEv), .c (.bool fl)] := by rw [hacc.obj]; exact hpF_obj g evs fl
    refine AW.seq_k fun K9 h9 => ?_
    refine AW.reg0 ?_
    iterate 2 refine S.one (J3 e0 @ptrV.eq_1 @nd) ?_
    have q1q := J3 e0 @ptrV.eq_1 @nd
    (refine S.g rfl rfl fun Y Z => ?_; simp only [zz, simprocAttr, -Int.reduceNatCast', -Int.reduceToNat, q1q]; (refine ACalls.to (FindC.at (hf x hxm) hacc) ?_; rintro v1 σ2 ⟨full', lk, σ1, hown, hheld, hfq⟩) <;> (refine Z _ _ ?_; clear Z Y))
    all_goals refine S.one q1q ?_
    all_goals (refine S.nil ?_; simp only [ze, simprocAttr, q1q]; apply_assumption)
    have hobj2 : σ2.obj g = some [.sl (evs.map encEv), .c (.bool full')] := by rw [hheld.obj, hown.held.obj]; exact hpF_obj g evs full'
    have hk8 := fun d => hown.held.kill d
    refine AW.seq_k fun K10 h10 => ?_
    all_goals refine AW.sr (J4 e0 @ptrV.eq_1 hobj2 hmap) ?_
    refine AW.cd full' (fun hb => ?_) (fun hb => ?_)
    · subst hb
      have hden : n.denP evs = none := by
        rcases hfq.yes rfl with h | h
        · exact hyes h
        · cases fl with
          | true => exact hyes rfl
          | false =>
            have hp := (hno rfl).2
            rw [kid_drop hx, List.map_cons, denOf, h, joinP_none] at hp
            exact hp
      refine AW.forget hheld (AW.forget hown.held ?_)
      refine AW.sr trivial ?_
      refine AW.ret ?_
      simp only [zs, simprocAttr]
      refine ⟨true, [], .inl ⟨rfl, rfl, rfl⟩, (fun _ h => by cases h), by simp, (fun h => by cases h), (fun _ => .inr hden), fun h => by cases h⟩
    subst hb
    obtain ⟨rfl, hden, hlk⟩ := hfq.no rfl
    obtain ⟨hal, hp⟩ := hno rfl
    rw [kid_drop hx, List.map_cons, denOf, hden] at hp
    refine AW.skip ?_
    all_goals simp only [zs, simprocAttr]
    all_goals apply_assumption
    refine AW.seq_k fun K13 h13 => ?_
    all_goals refine AW.sr trivial ?_
    refine AW.cond (b := decide (i = 0)) (by simp [ev]; rw [Bool.eq_iff_iff, beq_iff_eq, decide_eq_true_eq]; omega) (fun hc => ?_) (fun hc => ?_)
    · have hc := of_decide_eq_true hc
      subst hc
      have hs12 : σ2 = σ1 := by
        rcases hheld with ⟨_, _, h⟩ | ⟨k, h, _⟩
        · exact h
        · rw [(hi0 rfl).1] at h; cases h
      subst hs12
      refine AW.sr trivial ?_
      refine AW.exit ?_
      simp only [zs, simprocAttr]
      all_goals apply_assumption
      have q2q := J7 e0 e3 l3 e19 e20 e21 hw
      refine AW.reg0 (S.rn q2q ?_)
      simp only [ze, simprocAttr, q2q]
      refine ⟨m - 1, by omega, 1, lk, false, by omega, hown.held, (fun h => by cases h), (fun _ h => ?_), hfq.of, by omega, (fun _ => ⟨hlk, hp.trans ?_⟩), (fun h => by cases h), ?_⟩
      · rcases hown with ⟨h1, _⟩ | ⟨k, h1, _⟩ <;> rw [h1] at h <;> cases h
      · have h1 : aheadO n 1 lk = some (lk, x.vars) := by
          unfold aheadO
          rw [if_neg (by decide)]
          show (n.kids[0]?).map _ = _
          rw [hx]; rfl
        rw [h1]; rfl
      all_goals exact fn1
    have hc := of_decide_eq_false hc
    obtain ⟨i', rfl⟩ : ∃ i', i = i' + 1 := ⟨i - 1, by omega⟩
    obtain ⟨y, hy, hym, hgy⟩ := kid_get (n := n) (i := i') (by omega)
    have hws := wsub1 (a := i') (by omega)
    rw [aheadO, if_neg (by omega), Nat.add_sub_cancel, hy, Option.map_some, joinP] at hp
    refine AW.skip ?_
    all_goals simp only [zs, simprocAttr]
    all_goals apply_assumption
    refine AW.gen (fun s' => s'.t 0 = ptrV g ∧ s'.t 3 = .lp 3 0 ∧ s'.l 3 = some [.c (.int .i64 n.kind), .c (.string n.var), .c (.string n.type), .sl (n.tests.map encC), .sl (n.kids.map encNd)] ∧ s'.t 5 = s.t 5 ∧ s'.t 6 = .c (.int .i64 ((i' + 1 : Nat) : Int)) ∧ s'.t 8 = v1 ∧ s'.t 19 = .sl (n.kids.map encNd) ∧ s'.t 20 = .c (.int .i64 (n.kids.length : Nat)) ∧ s'.t 21 = .c (.int .i64 ((i' + 1 : Nat) : Int))) ?_ ?_
    · simp only [zs, simprocAttr, e0, e3, l3, e19, e20, e21, hk5]
      all_goals exact fn1
    rintro s2 ⟨e0, e3, l3, e5, e6, e8, e19, e20, e21⟩
    have hown5 : OwnP σ1 acc (s2.t 5) σ2 := by rw [e5]; exact hheld.own (hi1 (by omega))
    refine AW.heldP hown5 fun s3 f5 kt kh kl => ?_
    have e0 := kt 0 _ e0 (fun _ _ => rfl)
    have e3 := kt 3 _ e3 (fun _ _ => rfl)
    have e6 := kt 6 _ e6 (fun _ _ => rfl)
    have e19 := kt 19 _ e19 (fun _ _ => rfl)
    have e20 := kt 20 _ e20 (fun _ _ => rfl)
    have e21 := kt 21 _ e21 (fun _ _ => rfl)
    have l3 := kl 3 _ l3 (fun _ _ => rfl)
    have hown8 : OwnP (hpF g evs false) lk (s3.t 8) σ1 := by
      rw [kh 8 (hpF g evs false) lk (by rw [e8]; exact hown.held), e8]; exact hown
    clear kt kh kl hheld hown hown5 hacc hk5 hk8 e5 e8
    refine AW.heldP hown8 fun s4 f8 kt kh kl => ?_
    have e0 := kt 0 _ e0 (fun _ _ => rfl)
    have e3 := kt 3 _ e3 (fun _ _ => rfl)
    have e5 := kt 5 _ f5 (fun _ _ => rfl)
    have e6 := kt 6 _ e6 (fun _ _ => rfl)
    have e19 := kt 19 _ e19 (fun _ _ => rfl)
    have e20 := kt 20 _ e20 (fun _ _ => rfl)
    have e21 := kt 21 _ e21 (fun _ _ => rfl)
    have l3 := kl 3 _ l3 (fun _ _ => rfl)
    clear kt kh kl hown8 f5
    have e8 := f8
    have hyv : PCalls Tryz.prog 63 [.agg (encNd y)] (fun v => v = .sl (y.vars.map encS)) := Vars_spec (hn.kid hym) (Nd.err_kid he hym)
    have hi'k : i' < n.kids.length := by omega
    have hyz := y.vars_size
    have hyn : y.size ≤ 1048576 := hn.kid hym
    refine AW.seq_k fun K16 h16 => ?_
    all_goals refine AW.reg0 ?_
    all_goals iterate 6 refine S.one (J8 e3 l3 e6 hws hi'k hgy @nd @List.length_map.{0,0}) ?_
    all_goals have q3q := J8 e3 l3 e6 hws hi'k hgy @nd @List.length_map.{0,0}
    all_goals refine S.cl q3q hyv ?_
    all_goals refine S.one q3q ?_
    all_goals (refine S.nil ?_; simp only [ze, simprocAttr, q3q]; apply_assumption)
    generalize hB : hpF g evs false = B at *
    all_goals refine AW.sr trivial ?_
    have hq1 : ∀ p ∈ acc, okF evs p := hao
    have hq2 : ∀ p ∈ lk, okF evs p := hfq.of
    refine AW.seq_j (fun s' σ' => AccH B (pairsP (decide (n.kind = 2)) y.vars acc lk) (s'.t 10) σ' ∧ s'.t 0 = ptrV g ∧ s'.t 3 = .lp 3 0 ∧ s'.l 3 = some [.c (.int .i64 n.kind), .c (.string n.var), .c (.string n.type), .sl (n.tests.map encC), .sl (n.kids.map encNd)] ∧ s'.t 19 = .sl (n.kids.map encNd) ∧ s'.t 20 = .c (.int .i64 (n.kids.length : Nat)) ∧ s'.t 21 = .c (.int .i64 ((i' + 1 : Nat) : Int))) ?_ ?_
    · refine AW.sr (J2 e5 @List.length_map.{0,0}) ?_
      refine AW.block ?_   -- 2
      refine AW.loop (fun m s σ => ∃ a : Nat, m + a = acc.length ∧ AccH B (pairsP (decide (n.kind = 2)) y.vars (acc.take a) lk) (s.t 10) σ ∧ s.t 0 = ptrV g ∧ s.t 3 = .lp 3 0 ∧ s.l 3 = some [.c (.int .i64 n.kind), .c (.string n.var), .c (.string n.type), .sl (n.tests.map encC), .sl (n.kids.map encNd)] ∧ s.t 8 = .sl (lk.map encP) ∧ s.t 9 = .sl (y.vars.map encS) ∧ s.t 19 = .sl (n.kids.map encNd) ∧ s.t 20 = .c (.int .i64 (n.kids.length : Nat)) ∧ s.t 21 = .c (.int .i64 ((i' + 1 : Nat) : Int)) ∧ s.t 43 = .sl (acc.map encP) ∧ s.t 44 = .c (.int .i64 (acc.length : Nat)) ∧ s.t 45 = .c (.int .i64 (a : Nat))) acc.length ?_ ?_
      · refine ⟨0, by simp, .inl ⟨?_, rfl, rfl⟩, ?_⟩
        · simp only [zs, simprocAttr]
        all_goals simp only [zs, simprocAttr, e0, e3, l3, e8, e19, e20, e21]
        all_goals exact fn1
      rintro ma s σ ⟨a, hma, hA, e0, e3, l3, e8, e9, e19, e20, e21, e43, e44, e45⟩
      have hkA := fun d => hA.held.kill d
      all_goals refine AW.sr (J2 e44 e45) ?_
      refine AW.seq_k fun K20 h20 => ?_
      refine AW.cd (decide (a < acc.length)) (fun ha => ?_) (fun ha => ?_)
      · have ha := of_decide_eq_true ha
        obtain ⟨p, hpx, hpm, hgp, hdp, _⟩ := part_get ha
        have hwa := wadd1 (a := a) (by omega)
        have hpq := hq1 p hpm
        have hpl := hpq.2.len
        have hoe : (ofB p y.vars).length * 80 ≤ 140737488355328 := by have := ofB_len p y.vars; omega
        refine AW.skip ?_
        simp only [zs, simprocAttr]
        all_goals apply_assumption
        refine AW.seq_j (fun s' σ' => AccH B (pairsP (decide (n.kind = 2)) y.vars (acc.take a) lk ++ rowP (decide (n.kind = 2)) y.vars lk p) (s'.t 10) σ' ∧ s'.t 0 = ptrV g ∧ s'.t 3 = .lp 3 0 ∧ s'.l 3 = some [.c (.int .i64 n.kind), .c (.string n.var), .c (.string n.type), .sl (n.tests.map encC), .sl (n.kids.map encNd)] ∧ s'.t 8 = .sl (lk.map encP) ∧ s'.t 9 = .sl (y.vars.map encS) ∧ s'.t 19 = .sl (n.kids.map encNd) ∧ s'.t 20 = .c (.int .i64 (n.kids.length : Nat)) ∧ s'.t 21 = .c (.int .i64 ((i' + 1 : Nat) : Int)) ∧ s'.t 43 = .sl (acc.map encP) ∧ s'.t 44 = .c (.int .i64 (acc.length : Nat)) ∧ s'.t 45 = .c (.int .i64 (a : Nat))) ?_ ?_
        · refine AW.block ?_   -- 3
          refine AW.sr (J12 hkA e0 e3 l3 e8 e9 e19 e20 e21 e43 e44 (J6 e45 ha hgp @encP.eq_1 @ptrV.eq_1 @List.length_map.{0,0})) ?_
          refine AW.seq_k fun K22 h22 => ?_
          refine AW.reg0 ?_
          iterate 2 refine S.one e9 ?_
          refine S.cl e9 (someB_spec p y.vars (by omega) (by omega)) ?_
          all_goals refine S.cl e9 (end_spec _ hoe) ?_
          all_goals refine S.one e9 ?_
          all_goals (refine S.nil ?_; simp only [ze, simprocAttr, e9]; apply_assumption)
          all_goals refine AW.sr (J12 hkA e0 e3 l3 e8 e9 e19 e20 e21 e43 e44 (J2 e45 @List.length_map.{0,0})) ?_
          have hRl : (pairsP (decide (n.kind = 2)) y.vars (acc.take a) lk).length ≤ 16777216 := Nat.le_trans (pairs_len ..) (by
            have h1 : (acc.take a).length ≤ 4096 := by rw [List.length_take]; omega
            exact Nat.le_trans (Nat.mul_le_mul h1 hlk) (by decide))
          generalize hr0 : pairsP (decide (n.kind = 2)) y.vars (acc.take a) lk = R0 at *
          refine AW.block ?_   -- 4
          refine AW.loop (fun m s σ => ∃ j : Nat, m + j = lk.length ∧ AccH B (R0 ++ rowP (decide (n.kind = 2)) y.vars (lk.take j) p) (s.t 10) σ ∧ s.t 0 = ptrV g ∧ s.t 3 = .lp 3 0 ∧ s.l 3 = some [.c (.int .i64 n.kind), .c (.string n.var), .c (.string n.type), .sl (n.tests.map encC), .sl (n.kids.map encNd)] ∧ s.t 8 = .sl (lk.map encP) ∧ s.t 9 = .sl (y.vars.map encS) ∧ s.t 12 = .lp 12 0 ∧ s.l 12 = some [.sl (p.map encBd)] ∧ s.t 13 = .c (.int .i64 (endOf (ofB p y.vars))) ∧ s.t 19 = .sl (n.kids.map encNd) ∧ s.t 20 = .c (.int .i64 (n.kids.length : Nat)) ∧ s.t 21 = .c (.int .i64 ((i' + 1 : Nat) : Int)) ∧ s.t 43 = .sl (acc.map encP) ∧ s.t 44 = .c (.int .i64 (acc.length : Nat)) ∧ s.t 45 = .c (.int .i64 (a : Nat)) ∧ s.t 53 = .sl (lk.map encP) ∧ s.t 54 = .c (.int .i64 (lk.length : Nat)) ∧ s.t 55 = .c (.int .i64 (j : Nat))) lk.length ?_ ?_
          · refine ⟨0, by simp, ?_, ?_⟩
            · simp only [zs, simprocAttr, hkA]
              simpa [rowP] using hA
            all_goals simp only [zs, simprocAttr, e0, e3, l3, e8, e9, e19, e20, e21, e43, e44, e45, ptrV]
            all_goals exact fn1
          rintro mj s σ ⟨j, hmj, hJ, e0, e3, l3, e8, e9, e12, l12, e13, e19, e20, e21, e43, e44, e45, e53, e54, e55⟩
          have hkJ := fun d => hJ.held.kill d
          all_goals refine AW.sr (J2 e54 e55) ?_
          refine AW.seq_k fun K25 h25 => ?_
          refine AW.cd (decide (j < lk.length)) (fun hj => ?_) (fun hj => ?_)
          · have hj := of_decide_eq_true hj
            obtain ⟨q, hqx, hqm, hgq, hdq, _⟩ := part_get hj
            have hwj := wadd1 (a := j) (by omega)
            have hqq := hq2 q hqm
            have hql := hqq.2.len
            refine AW.skip ?_
            simp only [zs, simprocAttr]
            all_goals apply_assumption
            refine AW.seq_j (fun s' σ' => AccH B (R0 ++ rowP (decide (n.kind = 2)) y.vars (lk.take (j + 1)) p) (s'.t 10) σ' ∧ s'.t 0 = ptrV g ∧ s'.t 3 = .lp 3 0 ∧ s'.l 3 = some [.c (.int .i64 n.kind), .c (.string n.var), .c (.string n.type), .sl (n.tests.map encC), .sl (n.kids.map encNd)] ∧ s'.t 8 = .sl (lk.map encP) ∧ s'.t 9 = .sl (y.vars.map encS) ∧ s'.t 12 = .lp 12 0 ∧ s'.l 12 = some [.sl (p.map encBd)] ∧ s'.t 13 = .c (.int .i64 (endOf (ofB p y.vars))) ∧ s'.t 19 = .sl (n.kids.map encNd) ∧ s'.t 20 = .c (.int .i64 (n.kids.length : Nat)) ∧ s'.t 21 = .c (.int .i64 ((i' + 1 : Nat) : Int)) ∧ s'.t 43 = .sl (acc.map encP) ∧ s'.t 44 = .c (.int .i64 (acc.length : Nat)) ∧ s'.t 45 = .c (.int .i64 (a : Nat)) ∧ s'.t 53 = .sl (lk.map encP) ∧ s'.t 54 = .c (.int .i64 (lk.length : Nat)) ∧ s'.t 55 = .c (.int .i64 (j : Nat))) ?_ ?_
            · refine AW.block ?_   -- 5
              refine AW.sr (J12 hkJ e0 e3 l3 e8 e9 e12 l12 e13 e19 e20 (J12 e21 e43 e44 e45 e53 e54 e55 hj hgq @encP.eq_1 @ptrV.eq_1 @List.length_map.{0,0})) ?_
              refine AW.seq_k fun K27 h27 => ?_
              refine AW.seq_j (fun s' σ' => σ' = σ ∧ s'.t 10 = s.t 10 ∧ s'.t 0 = ptrV g ∧ s'.t 3 = .lp 3 0 ∧ s'.l 3 = some [.c (.int .i64 n.kind), .c (.string n.var), .c (.string n.type), .sl (n.tests.map encC), .sl (n.kids.map encNd)] ∧ s'.t 8 = .sl (lk.map encP) ∧ s'.t 9 = .sl (y.vars.map encS) ∧ s'.t 12 = .lp 12 0 ∧ s'.l 12 = some [.sl (p.map encBd)] ∧ s'.t 13 = .c (.int .i64 (endOf (ofB p y.vars))) ∧ s'.t 19 = .sl (n.kids.map encNd) ∧ s'.t 20 = .c (.int .i64 (n.kids.length : Nat)) ∧ s'.t 21 = .c (.int .i64 ((i' + 1 : Nat) : Int)) ∧ s'.t 43 = .sl (acc.map encP) ∧ s'.t 44 = .c (.int .i64 (acc.length : Nat)) ∧ s'.t 45 = .c (.int .i64 (a : Nat)) ∧ s'.t 53 = .sl (lk.map encP) ∧ s'.t 54 = .c (.int .i64 (lk.length : Nat)) ∧ s'.t 55 = .c (.int .i64 (j : Nat)) ∧ s'.t 15 = .lp 15 0 ∧ s'.l 15 = some [.sl (q.map encBd)] ∧ s'.t 67 = .c (.bool (decide (n.kind = 2) && decide (beginOf q ≤ endOf (ofB p y.vars))))) ?_ ?_
              · skip
                refine AW.reg0 ?_
                have q4q := J12 hkJ e0 e3 l3 e8 e9 e12 l12 e13 e19 e20 (J8 e21 e43 e44 e45 e53 e54 e55 @ptrV.eq_1)
                iterate 2 refine S.one q4q ?_
                (refine S.sp q4q fun b a61 => ?_; cases b <;> (try exact nope a61))
                all_goals iterate 2 refine S.one q4q ?_
                all_goals have q5q := J12 hkJ e0 e3 l3 e8 e9 e12 l12 e13 e19 e20 (J8 e21 e43 e44 e45 e53 e54 e55 @ptrV.eq_1)
                all_goals (first | (refine S.cl q5q (begin_spec q (by omega)) ?_) | refine S.one trivial ?_)
                all_goals iterate 3 refine S.one q5q ?_
                all_goals refine S.nil ?_
                all_goals simp only [ze, simprocAttr, q5q]
                all_goals simp_all [ptrV]
              rintro s7 σ7 ⟨rfl, e10, e0, e3, l3, e8, e9, e12, l12, e13, e19, e20, e21, e43, e44, e45, e53, e54, e55, e15, l15, e67⟩
              rw [← e10] at hJ hkJ
              clear e10
              refine AW.cond (b := decide (n.kind = 2) && decide (beginOf q ≤ endOf (ofB p y.vars))) e67 (fun hc => ?_) (fun hc => ?_)
              · refine AW.exit ?_
                simp only [zs, simprocAttr]
                rw [row_step hqx, hc, if_pos rfl, List.append_nil]
                refine ⟨hJ, e0, e3, l3, e8, e9, e12, l12, e13, e19, e20, e21, e43, e44, e45, e53, e54, e55⟩
              have hst := row_step (two := decide (n.kind = 2)) (vs := y.vars) (p := p) hqx
              rw [hc, if_neg Bool.false_ne_true] at hst
              have hRj : (R0 ++ rowP (decide (n.kind = 2)) y.vars (lk.take j) p).length ≤ 16781312 := by
                have := row_len (decide (n.kind = 2)) y.vars (lk.take j) p
                rw [List.length_append]
                rw [List.length_take] at this
                omega
              have hR : R0 ++ rowP (decide (n.kind = 2)) y.vars (lk.take (j + 1)) p = (R0 ++ rowP (decide (n.kind = 2)) y.vars (lk.take j) p) ++ (if optB (mg p q) then [optL (mg p q)] else []) := by rw [hst, List.append_assoc]
              clear hst
              generalize R0 ++ rowP (decide (n.kind = 2)) y.vars (lk.take (j + 1)) p = R1 at *
              generalize R0 ++ rowP (decide (n.kind = 2)) y.vars (lk.take j) p = R at *
              have hmerge := mergeC hpq.2.m hqq.2.m
              refine AW.skip ?_
              all_goals simp only [zs, simprocAttr]
              all_goals apply_assumption
              refine AW.seq_k fun K28 h28 => ?_
              all_goals refine AW.reg0 ?_
              all_goals iterate 2 refine S.one (J12 hkJ e0 e3 l3 e8 e9 e12 l12 e13 e19 e20 (J10 e21 e43 e44 e45 e53 e54 e55 e15 l15 @ptrV.eq_1)) ?_
              all_goals have q6q := J12 hkJ e0 e3 l3 e8 e9 e12 l12 e13 e19 e20 (J10 e21 e43 e44 e45 e53 e54 e55 e15 l15 @ptrV.eq_1)
              all_goals refine S.cl q6q hmerge ?_
              all_goals iterate 6 refine S.one q6q ?_
              all_goals (refine S.nil ?_; simp only [ze, simprocAttr, q6q]; apply_assumption)
              all_goals refine AW.sr trivial ?_
              refine AW.cd (optB (mg p q)) (fun hb => ?_) (fun hb => ?_)
              · rw [hb, if_pos rfl] at hR
                have y1 : (R.length + 1 ≤ maxLen) = True := eq_true (by unfold maxLen; omega)
                have y2 : ((R.length + 1) * 24 ≤ reach) = True := eq_true (by unfold reach; omega)
                have y3 : (1 ≤ maxLen) = True := eq_true (by unfold maxLen; omega)
                have z1 : (∀ (e : List V), e ∈ [[V.sl ((optL (mg p q)).map encBd)]] → e.length = 1) = True := eq_true fun e he => by rw [List.mem_singleton.1 he]; rfl
                have y4 : (24 ≤ reach) = True := eq_true (by unfold reach; omega)
                rcases hJ with ⟨e10, hn0, rfl⟩ | ⟨k, e10, hk0, rfl⟩
                · rw [hn0] at hR
                  refine AW.reg0 ?_
                  iterate 3 (refine S.g rfl rfl fun Y Z => ?_; simp only [zb, simprocAttr, -Int.reduceNatCast', -Int.reduceToNat, tt, e0, e3, l3, e8, e9, e12, l12, e13, e19, e20, e21, e43, e44, e45, e53, e54, e55, e10, ptrV, kill, z1, y3, y4, List.length_map]; refine Z _ _ ?_; clear Z Y)
                  all_goals have q7q := J12 e0 e3 l3 e8 e9 e12 l12 e13 e19 e20 e21 (J12 e43 e44 e45 e53 e54 e55 e10 @ptrV.eq_1 @kill.eq_1 @kill.eq_2 z1 (J3 y3 y4 @List.length_map.{0,0}))
                  all_goals (refine S.g rfl rfl fun Y Z => ?_; simp only [zz, simprocAttr, -Int.reduceNatCast', -Int.reduceToNat, tt, q7q]; intro k1 hk1 <;> (refine Z _ _ ?_; clear Z Y))
                  all_goals refine S.one q7q ?_
                  all_goals refine S.nil ?_
                  all_goals simp only [ze, simprocAttr, q7q]
                  exact .inr ⟨k1, rfl, hk1, by rw [hR]; rfl⟩
                · unfold hpP
                  refine AW.reg0 ?_
                  iterate 3 (refine S.g rfl rfl fun Y Z => ?_; simp only [zb, simprocAttr, -Int.reduceNatCast', -Int.reduceToNat, tt, e0, e3, l3, e8, e9, e12, l12, e13, e19, e20, e21, e43, e44, e45, e53, e54, e55, e10, ptrV, kill, z1, y1, y2, y3, y4, List.length_map]; refine Z _ _ ?_; clear Z Y)
                  all_goals have q8q := J12 e0 e3 l3 e8 e9 e12 l12 e13 e19 e20 e21 (J12 e43 e44 e45 e53 e54 e55 e10 @ptrV.eq_1 @kill.eq_1 @kill.eq_2 z1 (J5 y1 y2 y3 y4 @List.length_map.{0,0}))
                  all_goals (refine S.g rfl rfl fun Y Z => ?_; simp only [zz, simprocAttr, -Int.reduceNatCast', -Int.reduceToNat, tt, q8q]; intro k1 hk1 <;> (refine Z _ _ ?_; clear Z Y))
                  all_goals refine S.one q8q ?_
                  all_goals refine S.nil ?_
                  all_goals simp only [ze, simprocAttr, q8q]
                  refine .inr ⟨k1, rfl, ?_, ?_⟩
                  · by_cases e : k1 = k
                    · rw [e]; exact hk0
                    · rw [if_neg e] at hk1; exact hk1
                  · rw [hR, hpP, Hp.setGr_none hk0, List.map_append]; rfl
              · rw [hb, if_neg Bool.false_ne_true, List.append_nil] at hR
                subst hR
                refine AW.skip ?_
                simp only [zs, simprocAttr, e0, e3, l3, e8, e9, e12, l12, e13, e19, e20, e21, e43, e44, e45, e53, e54, e55, hkJ, ptrV]
                all_goals ((try and_intros) <;> first | rfl | assumption | (exact hJ))
            rintro s8 σ8 ⟨hJ, e0, e3, l3, e8, e9, e12, l12, e13, e19, e20, e21, e43, e44, e45, e53, e54, e55⟩
            all_goals have q9q := J12 e0 e3 l3 e8 e9 e12 l12 e13 e19 e20 e21 (J7 e43 e44 e45 e53 e54 e55 hwj)
            all_goals refine AW.reg0 (S.rn q9q ?_)
            all_goals simp only [ze, simprocAttr, q9q]
            refine ⟨mj - 1, by omega, j + 1, by omega, hJ, ?_⟩
            all_goals exact fn1
          · have hj := of_decide_eq_false hj
            refine AW.exit ?_
            simp only [zs, simprocAttr]
            rw [List.take_of_length_le (by omega)] at hJ
            refine ⟨hJ, e0, e3, l3, e8, e9, e19, e20, e21, e43, e44, e45⟩
        rintro s6 σ6 ⟨hA, e0, e3, l3, e8, e9, e19, e20, e21, e43, e44, e45⟩
        rw [← pairs_step hpx] at hA
        all_goals have q10q := J12 e0 e3 l3 e8 e9 e19 e20 e21 e43 e44 e45 hwa
        all_goals refine AW.reg0 (S.rn q10q ?_)
        all_goals simp only [ze, simprocAttr, q10q]
        refine ⟨ma - 1, by omega, a + 1, by omega, hA, ?_⟩
        all_goals exact fn1
      · have ha := of_decide_eq_false ha
        refine AW.exit ?_
        simp only [zs, simprocAttr]
        rw [List.take_of_length_le (by omega)] at hA
        refine ⟨hA, e0, e3, l3, e19, e20, e21⟩
    rintro s5 σ5 ⟨hA, e0, e3, l3, e19, e20, e21⟩
    have hle : (pairsP (decide (n.kind = 2)) y.vars acc lk).length ≤ 16777216 := Nat.le_trans (pairs_len ..) (Nat.le_trans (Nat.mul_le_mul hal hlk) (by decide))
    have hPo : ∀ p ∈ pairsP (decide (n.kind = 2)) y.vars acc lk, okF evs p := pairs_ok hq1 hq2
    generalize pairsP (decide (n.kind = 2)) y.vars acc lk = L at *
    have hnl := norm_len L
    have hNo : ∀ p ∈ norm L, okF evs p := fun p hp => hPo p ((norm_mem (from_apt hdi) (fun y hy => (hPo y hy).1) p).1 hp)
    have hden1 : decide (4096 < (norm L).length) = false → (norm L).length ≤ 4096 ∧ n.denP evs = joinP (decide (n.kind = 2)) (aheadO n (i' + 2) (norm L)) ((n.kids.drop (i' + 2)).map (denOf evs)) := fun hf => by
      have hf := of_decide_eq_false hf
      rw [capL, if_neg hf, Option.bind_some] at hp
      refine ⟨by omega, hp.trans ?_⟩
      have h1 : aheadO n (i' + 2) (norm L) = some (norm L, x.vars) := by
        unfold aheadO
        rw [if_neg (by omega)]
        show (n.kids[i' + 1]?).map _ = _
        rw [hx]; rfl
      rw [h1]
    have hden2 : decide (4096 < (norm L).length) = true → n.denP evs = none := fun hf => by
      have hf := of_decide_eq_true hf
      rw [capL, if_pos hf] at hp
      exact hp
    rcases hA with ⟨e10, hn0, rfl⟩ | ⟨k, e10, hk0, rfl⟩
    · have honce := onceNil_spec g evs false
      rw [hB] at honce
      have hO : OwnP (hpF g evs (decide (4096 < (norm L).length))) (norm L) (.sl []) σ5 := by rw [hn0]; exact .inl ⟨rfl, rfl, hB.symm⟩
      refine AW.reg0 ?_
      iterate 2 refine S.one (J8 e0 e3 l3 e10 e19 e20 e21 @ptrV.eq_1) ?_
      have q11q := J8 e0 e3 l3 e10 e19 e20 e21 @ptrV.eq_1
      (refine S.g rfl rfl fun Y Z => ?_; simp only [zz, simprocAttr, -Int.reduceNatCast', -Int.reduceToNat, q11q]; (first | (refine ACalls.to honce ?_; rintro _ _ ⟨rfl, rfl⟩) | (refine ACalls.to honce ?_; rintro v2 σ3 hv)) <;> (refine Z _ _ ?_; clear Z Y))
      all_goals refine S.one q11q ?_
      all_goals (refine S.nil ?_; simp only [ze, simprocAttr, q11q]; apply_assumption)
      all_goals have q12q := J7 e0 e3 l3 e19 e20 e21 hw
      all_goals refine AW.reg0 (S.rn q12q ?_)
      all_goals simp only [ze, simprocAttr, q12q]
      refine ⟨m - 1, by omega, i' + 2, norm L, decide (4096 < (norm L).length), by omega, hO.held, (fun h => by cases h), (fun _ h => by cases h), hNo, by omega, hden1, hden2, ?_⟩
      all_goals exact fn1
    · have honce := once_spec (from_apt hdi) g evs false k L (fun p hp => (hPo p hp).1) (by omega) (fun p hp => by have := (hPo p hp).2.len; omega)
      rw [hB] at honce
      refine AW.reg0 ?_
      iterate 2 refine S.one (J8 e0 e3 l3 e10 e19 e20 e21 @ptrV.eq_1) ?_
      have q13q := J8 e0 e3 l3 e10 e19 e20 e21 @ptrV.eq_1
      (refine S.g rfl rfl fun Y Z => ?_; simp only [zz, simprocAttr, -Int.reduceNatCast', -Int.reduceToNat, q13q]; (first | (refine ACalls.to honce ?_; rintro _ _ ⟨rfl, rfl⟩) | (refine ACalls.to honce ?_; rintro v2 σ3 hv)) <;> (refine Z _ _ ?_; clear Z Y))
      all_goals refine S.one q13q ?_
      all_goals (refine S.nil ?_; simp only [ze, simprocAttr, q13q]; apply_assumption)
      rw [Bool.false_or] at hv
      all_goals have q14q := J7 e0 e3 l3 e19 e20 e21 hw
      all_goals refine AW.reg0 (S.rn q14q ?_)
      all_goals simp only [ze, simprocAttr, q14q]
      refine ⟨m - 1, by omega, i' + 2, norm L, decide (4096 < (norm L).length), by omega, hv.held, (fun h => by cases h), (fun _ h => ?_), hNo, by omega, hden1, hden2, ?_⟩
      · rcases hv with ⟨h1, _⟩ | ⟨k, h1, _⟩ <;> rw [h1] at h <;> cases h
      all_goals exact fn1
  · have hi := of_decide_eq_false hi
    refine AW.exit ?_
    simp only [zs, simprocAttr]
    all_goals apply_assumption
    have hin : i = n.kids.length := by omega
    rw [List.drop_of_length_le (by omega)] at hno
    have hown := hacc.own (hi1 (by omega))
    refine AW.sr trivial ?_
    refine AW.ret ?_
    simp only [zs, simprocAttr]
    have hd : fl = false → n.denP evs = some acc := fun h => by
      have hp := (hno h).2
      obtain ⟨y, hy, _⟩ := kid_get (n := n) (i := i - 1) (by omega)
      rw [aheadO, if_neg (by omega), hy] at hp
      exact hp
    have hq : FindQ evs n false fl acc := ⟨hao, by omega, fun h => ⟨rfl, hd h, (hno h).1⟩, fun h => .inr (hyes h), fun h => by cases h⟩
    rcases hown with ⟨h1, h2⟩ | ⟨k, h1, h2⟩
    · rw [h1]; exact ⟨rfl, fl, acc, .inl ⟨rfl, h2⟩, hq⟩
    · rw [h1]; exact ⟨rfl, fl, acc, .inr ⟨k, rfl, h2⟩, hq⟩
end Go.Abs.M
namespace Go.Abs
open Go
section
variable {P : Program} {σ : Hp}
variable [Mode]
theorem ACalls.freezeD {f : FuncId} {args : List V} {R R' : V → Hp → Prop} (h : ACalls P f args σ R)
  (hr : ∀ v σ', R v σ' → R' v σ' ∨ ∃ k T es, v = .gl k ∧ σ'.gr k = some (T, es) ∧ R' (.sl es) (σ'.setGr k none)) : ACalls P f args σ R' := by
 refine ⟨h.1, fun cx w xs hH ha => (h.2 cx w xs hH ha).mono fun e w' ⟨v, r, cx', σ', h1, h2, h3, h4⟩ => ?_⟩
 rcases hr v σ' h4 with hR | ⟨k, T, es, rfl, hk, hR⟩
 ·exact ⟨v, r, cx', σ', h1, h2, h3, hR⟩
 obtain ⟨cx2, hle, hL, hI, hH2, hv⟩ := h3.heap.freeze hk
 have hsub : ∀ g, (σ'.setGr k none).own cx2 g → σ'.own cx' g := fun g hg => by
  rcases hg with ⟨c, hc⟩ | ⟨j, x, hj, hb⟩
  ·exact .inl ⟨c, hc⟩
  ·by_cases ej : j = k
   ·simp [Hp.setGr, ej] at hj
   ·simp only [Hp.setGr, ej, if_false] at hj
    have hjn := (h3.heap.gr j x.1 x.2 hj).1
    rw [hle.M j hjn] at hb
    exact .inr ⟨j, x, hj, hb⟩
 have hcx : r = cx'.M k := by cases h2; rfl
 refine ⟨.sl es, r, cx2, σ'.setGr k none, h1, hcx ▸ hv, ⟨hH2, ⟨h3.ext.os, h3.ext.tape, h3.ext.output, h3.ext.size, h3.ext.block, h3.ext.le.trans hle, fun g hg => ?_, fun g hg => h3.ext.fnew g (hsub g hg)⟩, fun j x hj => ?_, fun g x hg => h3.onew g x hg⟩, hR⟩
 ·rcases hI g hg with hg | hg
  ·exact h3.ext.inew g hg
  ·rcases h3.ext.fnew g (.inr ⟨k, _, hk, hg⟩) with h | h
   ·exact .inr (.inl h)
   ·exact .inr (.inr h)
 ·by_cases ej : j = k
  ·simp [Hp.setGr, ej] at hj
  ·simp only [Hp.setGr, ej, if_false] at hj
   exact h3.gnew j x hj
end
end Go.Abs
namespace Go.Abs.M
open Go Go.Abs Go.Proofs
set_option maxRecDepth 20000
theorem FindC.sl {g : Nat} {evs : List Ev} {n : Nd} (h : FindC g evs n) {full : Bool} {a : List (List Bd)} {va : V} {σ : Hp} (ha : AccH (hpF g evs full) a va σ) :
  ACalls Tryz.prog 38 [ptrV g, .agg (encNd n)] σ (fun v σ' => ∃ full' l, v = .sl (l.map encP) ∧ AccH (hpF g evs full') a va σ' ∧ FindQ evs n full full' l) := by
 refine (h.at ha.held).freezeD fun v σ' ⟨full', l, σ1, ho, hh, hq⟩ => ?_
 rcases ho with ⟨rfl, rfl, rfl⟩ | ⟨k2, rfl, hk2, rfl⟩
 ·refine .inl ⟨full', [], rfl, ?_, hq⟩
  rcases ha with ⟨h1, _⟩ | ⟨k, h1, _⟩
  ·rcases hh with ⟨_, h2, h3⟩ | ⟨k, h2, _⟩
   ·exact .inl ⟨h1, h2, h3⟩
   ·rw [h1] at h2; cases h2
  ·rcases hh with ⟨h2 | h2, _⟩ | h2
   ·rw [h1] at h2; cases h2
   ·rw [h1] at h2; cases h2
   ·exact .inr h2
 ·refine .inr ⟨k2, (40, 1), l.map encP, rfl, ?_⟩
  rcases ha with ⟨h1, _⟩ | ⟨k, h1, _⟩
  ·rcases hh with ⟨_, h2, rfl⟩ | ⟨k, h2, _⟩
   ·exact ⟨by simp [hpP], full', l, rfl, .inl ⟨h1, h2, by rw [hpP, Hp.set_none hk2]⟩, hq⟩
   ·rw [h1] at h2; cases h2
  ·rcases hh with ⟨h2 | h2, _⟩ | ⟨k', h2, h3, rfl⟩
   ·rw [h1] at h2; cases h2
   ·rw [h1] at h2; cases h2
   ·have hne : k2 ≠ k' := fun e => by subst e; simp [hpP] at h3
    refine ⟨by simp [hpP, hne], full', l, rfl, .inr ⟨k', h2, ?_, ?_⟩, hq⟩
    ·simp [hpF_gr]
    ·simp only [hpP, Hp.setGr, Hp.mk.injEq, true_and]
     funext j
     by_cases e : j = k2
     ·subst e; simp [hne, hpF_gr]
     ·simp [e]
theorem FindC.nilS {g : Nat} {evs : List Ev} {n : Nd} (h : FindC g evs n) (full : Bool) : ACalls Tryz.prog 38 [ptrV g, .agg (encNd n)] (hpF g evs full) (fun v σ' => ∃ full' l, v = .sl (l.map encP) ∧ σ' = hpF g evs full' ∧ FindQ evs n full full' l) :=
 (h.sl (a := []) (.inl ⟨rfl, rfl, rfl⟩)).to fun v σ' ⟨full', l, h1, h2, h3⟩ => ⟨full', l, h1, (by
  rcases h2 with ⟨_, _, h⟩ | ⟨k, h, _⟩
  ·exact h
  ·cases h), h3⟩
theorem FindC.glS {g : Nat} {evs : List Ev} {n : Nd} (h : FindC g evs n) (full : Bool) (k : Nat) (a : List (List Bd)) : ACalls Tryz.prog 38 [ptrV g, .agg (encNd n)] (hpP (hpF g evs full) k a) (fun v σ' => ∃ full' l, v = .sl (l.map encP) ∧ σ' = hpP (hpF g evs full') k a ∧ FindQ evs n full full' l) :=
 (h.sl (a := a) (va := .gl k) (.inr ⟨k, rfl, rfl, rfl⟩)).to fun v σ' ⟨full', l, h1, h2, h3⟩ => ⟨full', l, h1, (by
  rcases h2 with ⟨h, _⟩ | ⟨k', h, _, h'⟩
  ·cases h
  ·injection h with h; subst h; exact h'), h3⟩
theorem leafL_step {n : Nd} {evs : List Ev} {i : Nat} {e : Ev} (h : evs[i]? = some e) : leafL n (evs.take (i + 1)) = leafL n (evs.take i) ++ if termB n e then [[⟨n.var, e⟩]] else [] := by
 rw [List.take_add_one, h, leafL, List.filter_append, List.map_append]
 congr 1
 cases ht : termB n e <;> simp [ht]
theorem leafL_len (n : Nd) (evs : List Ev) : (leafL n evs).length ≤ evs.length := by
 rw [leafL, List.length_map]; exact List.length_filter_le _ _
theorem leafL_ok {n : Nd} {evs : List Ev} (hev : okEvs evs) (hv : n.var.size < 4611686018427387904) : ∀ p ∈ leafL n evs, okF evs p := by
 intro p hp
 obtain ⟨e, he, rfl⟩ := List.mem_map.1 hp
 have he := (List.mem_filter.1 he).1
 exact ⟨fun b hb => by rw [List.mem_singleton.1 hb]; exact he, leaf_okQ hv (hev.ok e he) (hev.few e he) (hev.time e he)⟩
theorem leaf_part {nm : ByteArray} {e : Ev} (hn : isName nm = true) (he : evErr e = 0) : partErr [⟨nm, e⟩] = 0 := by
 rw [part_iff]
 refine ⟨by simp, fun b hb => ?_, List.pairwise_singleton ..⟩
 rw [List.mem_singleton.1 hb]
 exact ⟨by simp [named, hn], he⟩
theorem leaf_name {n : Nd} (h : n.err = 0) (hk : n.kind = 1) : isName n.var = true := by
 have h0 := Nd.err_own h
 rw [ndOwn, if_pos hk] at h0
 split at h0
 ·cases h0
 ·rename_i hb
  simp only [leafBad, Bool.or_eq_true, not_or, decide_eq_true_eq, Bool.not_eq_true', Bool.not_eq_false] at hb
  exact hb.1.2
theorem Nd.size_pos (n : Nd) : 1 ≤ n.size := by rw [Nd.size_eq]; omega
theorem sum_take_le {n : Nd} {i : Nat} : ((n.kids.take i).map Nd.size).sum ≤ n.size := by
 rw [Nd.size_eq]
 have h : (n.kids.map Nd.size).sum = ((n.kids.take i).map Nd.size).sum + ((n.kids.drop i).map Nd.size).sum := by
  rw [← List.sum_append, ← List.map_append, List.take_append_drop]
 omega
theorem find_spec {evs : List Ev} (hev : okEvs evs) (hdi : Dist evs) (hval : ∀ e ∈ evs, evErr e = 0) (g : Nat) : ∀ n : Nd, n.small → n.ok → n.err = 0 → FindC g evs n := Nd.ind fun n ih hn ho he full => by
  have hl := hn.len
  have hp0 := n.denP_eq evs
  have hmap := map3 evs
  have hE := (encNd_eq n).symm
  have hobj := fun b => hpF_obj g evs b
  have hel := hev.len
  rw [encNd_eq]
  refine ACalls.intro Tryz.call38 Tryz.func38 rfl Tryz.ntmps38 Tryz.results38 (by simp) ?_
  refine AW.sr @ptrV.eq_1 ?_
  refine AW.seq_k fun K2 h2 => ?_
  refine AW.sr (J3 @ptrV.eq_1 hobj hmap) ?_
  refine AW.cd full (fun hb => ?_) (fun hb => ?_)
  · subst hb
    refine AW.sr trivial ?_
    refine AW.ret ?_
    simp only [zs, simprocAttr]
    exact ⟨true, [], .inl ⟨rfl, rfl, rfl⟩, (fun _ h => by cases h), by simp, (fun h => by cases h), (fun _ => .inl rfl), fun _ => rfl⟩
  subst hb
  refine AW.skip ?_
  all_goals simp only [zs, simprocAttr]
  all_goals apply_assumption
  refine AW.seq_k fun K5 h5 => ?_
  all_goals refine AW.sr trivial ?_
  refine AW.block ?_   -- 0
  all_goals refine AW.sr trivial ?_
  refine AW.cd (n.kind == 1) (fun hk => ?_) (fun hk => ?_)
  · have hk : n.kind = 1 := by simpa using hk
    rw [if_pos hk] at hp0
    have hvn := leaf_name he hk
    refine AW.sr trivial ?_
    refine AW.seq_k fun K9 h9 => ?_
    refine AW.sr (J4 @ptrV.eq_1 hobj hmap @List.length_map.{0,0}) ?_
    generalize hB : hpF g evs false = B at *
    refine AW.block ?_   -- 1
    refine AW.loop (fun m s' σ => ∃ i : Nat, m + i = evs.length ∧ AccH B (leafL n (evs.take i)) (s'.t 5) σ ∧ s'.t 0 = ptrV g ∧ s'.t 3 = .lp 3 0 ∧ s'.l 3 = some [.c (.int .i64 n.kind), .c (.string n.var), .c (.string n.type), .sl (n.tests.map encC), .sl (n.kids.map encNd)] ∧ s'.t 24 = .sl (evs.map encEv) ∧ s'.t 25 = .c (.int .i64 (evs.length : Nat)) ∧ s'.t 26 = .c (.int .i64 (i : Nat))) evs.length ?_ ?_
    · refine ⟨0, by simp, .inl ⟨?_, rfl, rfl⟩, ?_⟩
      · simp only [zs, simprocAttr]
      all_goals simp only [zs, simprocAttr, ptrV]
      all_goals exact fn1
    rintro m s σ ⟨i, hm, hA, e0, e3, l3, e24, e25, e26⟩
    have hkA := fun d => hA.held.kill d
    all_goals refine AW.sr (J2 e25 e26) ?_
    refine AW.seq_k fun K12 h12 => ?_
    refine AW.cd (decide (i < evs.length)) (fun hi => ?_) (fun hi => ?_)
    · have hi := of_decide_eq_true hi
      obtain ⟨e, hx, hxm, hgx⟩ : ∃ e, evs[i]? = some e ∧ e ∈ evs ∧ (evs.map encEv).getD i [] = encEv e := ⟨evs[i], List.getElem?_eq_getElem hi, List.getElem_mem hi, getD_map hi⟩
      have hw := wadd1 (a := i) (by omega)
      have hst := leafL_step (n := n) hx
      have hll := leafL_len n (evs.take i)
      rw [List.length_take] at hll
      have hpz := leaf_part hvn (hval e hxm)
      have hof := of_spec n.var e (fun b hb => by rw [List.mem_singleton.1 hb]; exact ⟨ho.own.var, hev.ok e hxm⟩) (by have := hev.few e hxm; omega)
      rw [if_neg (by rw [hpz]; simp)] at hof
      have hterm := Term_spec n e (by have := hev.few e hxm; omega) ho.own.len
      rw [encNd_eq] at hterm
      generalize leafL n (evs.take i) = R at *
      generalize hR1 : leafL n (evs.take (i + 1)) = R1 at *
      refine AW.skip ?_
      simp only [zs, simprocAttr]
      all_goals apply_assumption
      refine AW.seq_j (fun s' σ' => AccH B R1 (s'.t 5) σ' ∧ s'.t 0 = ptrV g ∧ s'.t 3 = .lp 3 0 ∧ s'.l 3 = some [.c (.int .i64 n.kind), .c (.string n.var), .c (.string n.type), .sl (n.tests.map encC), .sl (n.kids.map encNd)] ∧ s'.t 24 = .sl (evs.map encEv) ∧ s'.t 25 = .c (.int .i64 (evs.length : Nat)) ∧ s'.t 26 = .c (.int .i64 (i : Nat))) ?_ ?_
      · refine AW.block ?_   -- 2
        refine AW.sr (J12 hkA e0 e3 l3 e24 e25 e26 hi hgx @encEv.eq_1 @ptrV.eq_1 @List.length_map.{0,0}) ?_
        rw [encEv] at hof hterm
        refine AW.seq_k fun K14 h14 => ?_
        refine AW.reg0 ?_
        iterate 3 refine S.one (J9 hkA e0 e3 l3 e24 e25 e26 @encEv.eq_1 @ptrV.eq_1) ?_
        have q1q := J9 hkA e0 e3 l3 e24 e25 e26 @encEv.eq_1 @ptrV.eq_1
        refine S.cl q1q hof ?_
        all_goals iterate 6 refine S.one q1q ?_
        all_goals (refine S.nil ?_; simp only [ze, simprocAttr, q1q]; apply_assumption)
        refine AW.seq_j (fun s' σ' => σ' = σ ∧ s'.t 5 = s.t 5 ∧ s'.t 0 = ptrV g ∧ s'.t 3 = .lp 3 0 ∧ s'.l 3 = some [.c (.int .i64 n.kind), .c (.string n.var), .c (.string n.type), .sl (n.tests.map encC), .sl (n.kids.map encNd)] ∧ s'.t 24 = .sl (evs.map encEv) ∧ s'.t 25 = .c (.int .i64 (evs.length : Nat)) ∧ s'.t 26 = .c (.int .i64 (i : Nat)) ∧ s'.t 8 = .lp 8 0 ∧ s'.l 8 = some [.sl (([⟨n.var, e⟩] : List Bd).map encBd)] ∧ s'.t 43 = .c (.bool (termB n e))) ?_ ?_
        · skip
          refine AW.reg0 ?_
          have q2q := J9 hkA e0 e3 l3 e24 e25 e26 @encEv.eq_1 @ptrV.eq_1
          refine S.one q2q ?_
          (refine S.sp q2q fun b a38 => ?_; cases b <;> (try exact nope a38))
          all_goals iterate 3 refine S.one q2q ?_
          all_goals have q3q := J9 hkA e0 e3 l3 e24 e25 e26 @encEv.eq_1 @ptrV.eq_1
          all_goals (first | (refine S.cl q3q hterm ?_) | refine S.one trivial ?_)
          all_goals refine S.one q3q ?_
          all_goals refine S.nil ?_
          all_goals simp only [ze, simprocAttr, q3q]
          all_goals exact fn1
        rintro s2 σ2 ⟨rfl, e5, e0, e3, l3, e24, e25, e26, e8, l8, e43⟩
        rw [← e5] at hA hkA
        refine AW.cond (b := termB n e) e43 (fun hc => ?_) (fun hc => ?_)
        · rw [hc, if_pos rfl] at hst
          have y1 : (R.length + 1 ≤ maxLen) = True := eq_true (by unfold maxLen; omega)
          have y2 : ((R.length + 1) * 24 ≤ reach) = True := eq_true (by unfold reach; omega)
          have y3 : (1 ≤ maxLen) = True := eq_true (by unfold maxLen; omega)
          have z1 : (∀ (e' : List V), e' ∈ [[V.sl [encBd ⟨n.var, e⟩]]] → e'.length = 1) = True := eq_true fun e he => by rw [List.mem_singleton.1 he]; rfl
          have y4 : (24 ≤ reach) = True := eq_true (by unfold reach; omega)
          rcases hA with ⟨e5', hn0, rfl⟩ | ⟨k, e5', hk0, rfl⟩
          · rw [hn0] at hst
            refine AW.reg0 ?_
            iterate 3 (refine S.g rfl rfl fun Y Z => ?_; simp only [zb, simprocAttr, -Int.reduceNatCast', -Int.reduceToNat, tt, e0, e3, l3, e24, e25, e26, e5', e8, l8, ptrV, kill, z1, y3, y4]; refine Z _ _ ?_; clear Z Y)
            all_goals have q4q := J12 e0 e3 l3 e24 e25 e26 e5' e8 l8 @ptrV.eq_1 @kill.eq_1 (J4 @kill.eq_2 z1 y3 y4)
            all_goals (refine S.g rfl rfl fun Y Z => ?_; simp only [zz, simprocAttr, -Int.reduceNatCast', -Int.reduceToNat, tt, q4q]; intro k1 hk1 <;> (refine Z _ _ ?_; clear Z Y))
            all_goals refine S.one q4q ?_
            all_goals refine S.nil ?_
            all_goals simp only [ze, simprocAttr, q4q]
            exact .inr ⟨k1, rfl, hk1, by rw [hst]; rfl⟩
          · unfold hpP
            refine AW.reg0 ?_
            iterate 3 (refine S.g rfl rfl fun Y Z => ?_; simp only [zb, simprocAttr, -Int.reduceNatCast', -Int.reduceToNat, tt, e0, e3, l3, e24, e25, e26, e5', e8, l8, ptrV, kill, z1, y1, y2, y3, y4, List.length_map]; refine Z _ _ ?_; clear Z Y)
            all_goals have q5q := J12 e0 e3 l3 e24 e25 e26 e5' e8 l8 @ptrV.eq_1 @kill.eq_1 (J7 @kill.eq_2 z1 y1 y2 y3 y4 @List.length_map.{0,0})
            all_goals (refine S.g rfl rfl fun Y Z => ?_; simp only [zz, simprocAttr, -Int.reduceNatCast', -Int.reduceToNat, tt, q5q]; intro k1 hk1 <;> (refine Z _ _ ?_; clear Z Y))
            all_goals refine S.one q5q ?_
            all_goals refine S.nil ?_
            all_goals simp only [ze, simprocAttr, q5q]
            refine .inr ⟨k1, rfl, ?_, ?_⟩
            · by_cases e : k1 = k
              · rw [e]; exact hk0
              · rw [if_neg e] at hk1; exact hk1
            · rw [hst, hpP, Hp.setGr_none hk0, List.map_append]; rfl
        · rw [hc, if_neg Bool.false_ne_true, List.append_nil] at hst
          subst hst
          refine AW.skip ?_
          simp only [zs, simprocAttr, e0, e3, l3, e24, e25, e26, hkA, ptrV]
          all_goals ((try and_intros) <;> first | rfl | assumption | (exact hA))
      rintro s2 σ2 ⟨hA, e0, e3, l3, e24, e25, e26⟩
      rw [← hR1] at hA
      all_goals have q6q := J7 e0 e3 l3 e24 e25 e26 hw
      all_goals refine AW.reg0 (S.rn q6q ?_)
      all_goals simp only [ze, simprocAttr, q6q]
      refine ⟨m - 1, by omega, i + 1, by omega, hA, ?_⟩
      all_goals exact fn1
    · have hi := of_decide_eq_false hi
      refine AW.exit ?_
      simp only [zs, simprocAttr]
      all_goals apply_assumption
      rw [List.take_of_length_le (by omega)] at hA
      have hLo := leafL_ok hev ho.own.var (n := n)
      have hLl := leafL_len n evs
      generalize leafL n evs = L at *
      have hnl := norm_len L
      have hNo : ∀ p ∈ norm L, okF evs p := fun p hp => hLo p ((norm_mem (from_apt hdi) (fun y hy => (hLo y hy).1) p).1 hp)
      have hq : FindQ evs n false false (norm L) := ⟨hNo, by omega, fun _ => ⟨rfl, hp0, by omega⟩, (fun h => by cases h), fun h => by cases h⟩
      rcases hA with ⟨e5, hn0, rfl⟩ | ⟨k, e5, hk0, rfl⟩
      · have honce := onceNil_spec g evs false
        rw [hB] at honce
        refine AW.seq_k fun K15 h15 => ?_
        refine AW.reg0 ?_
        iterate 2 refine S.one (J8 e0 e3 l3 e24 e25 e26 e5 @ptrV.eq_1) ?_
        have q7q := J8 e0 e3 l3 e24 e25 e26 e5 @ptrV.eq_1
        (refine S.g rfl rfl fun Y Z => ?_; simp only [zz, simprocAttr, -Int.reduceNatCast', -Int.reduceToNat, q7q]; (first | (refine ACalls.to honce ?_; rintro _ _ ⟨rfl, rfl⟩) | (refine ACalls.to honce ?_; rintro v2 σ3 hv)) <;> (refine Z _ _ ?_; clear Z Y))
        all_goals refine S.one q7q ?_
        all_goals (refine S.nil ?_; simp only [ze, simprocAttr, q7q]; apply_assumption)
        refine AW.ret ?_
        all_goals simp only [zs, simprocAttr]
        exact ⟨false, norm L, .inl ⟨rfl, by rw [hn0]; rfl, hB.symm⟩, hq⟩
      · have honce := once_spec (from_apt hdi) g evs false k L (fun p hp => (hLo p hp).1) (by omega) (fun p hp => by have := (hLo p hp).2.len; omega)
        rw [hB, decide_eq_false (by omega), Bool.or_false] at honce
        refine AW.seq_k fun K16 h16 => ?_
        refine AW.reg0 ?_
        iterate 2 refine S.one (J8 e0 e3 l3 e24 e25 e26 e5 @ptrV.eq_1) ?_
        have q8q := J8 e0 e3 l3 e24 e25 e26 e5 @ptrV.eq_1
        (refine S.g rfl rfl fun Y Z => ?_; simp only [zz, simprocAttr, -Int.reduceNatCast', -Int.reduceToNat, q8q]; (first | (refine ACalls.to honce ?_; rintro _ _ ⟨rfl, rfl⟩) | (refine ACalls.to honce ?_; rintro v2 σ3 hv)) <;> (refine Z _ _ ?_; clear Z Y))
        all_goals refine S.one q8q ?_
        all_goals (refine S.nil ?_; simp only [ze, simprocAttr, q8q]; apply_assumption)
        refine AW.ret ?_
        all_goals simp only [zs, simprocAttr]
        rcases hv with ⟨rfl, h2⟩ | ⟨k, rfl, h2⟩
        · exact ⟨rfl, false, norm L, .inl ⟨rfl, h2⟩, hq⟩
        · exact ⟨rfl, false, norm L, .inr ⟨k, rfl, h2⟩, hq⟩
  have hk : ¬ n.kind = 1 := by simpa using hk
  rw [if_neg hk] at hp0
  all_goals refine AW.sr trivial ?_
  refine AW.cd (n.kind == 4) (fun h4 => ?_) (fun h4 => ?_)
  · have h4 : n.kind = 4 := by simpa using h4
    rw [if_pos h4] at hp0
    refine AW.sr trivial ?_
    refine AW.seq_k fun K19 h19 => ?_
    refine AW.sr @List.length_map.{0,0} ?_
    refine AW.block ?_   -- 3
    refine AW.loop (fun m s' σ => ∃ (i : Nat) (out : List (List Bd)) (fl : Bool), m + i = n.kids.length ∧ AccH (hpF g evs fl) out (s'.t 10) σ ∧ (∀ p ∈ out, okF evs p) ∧ out.length ≤ (if fl then 16777216 else 0) + 4096 * ((n.kids.take i).map Nd.size).sum ∧ (fl = false → allO (n.kids.map (Nd.denP evs)) = (allO ((n.kids.drop i).map (Nd.denP evs))).map (out ++ ·)) ∧ (fl = true → allO (n.kids.map (Nd.denP evs)) = none) ∧ s'.t 0 = ptrV g ∧ s'.t 3 = .lp 3 0 ∧ s'.l 3 = some [.c (.int .i64 n.kind), .c (.string n.var), .c (.string n.type), .sl (n.tests.map encC), .sl (n.kids.map encNd)] ∧ s'.t 55 = .sl (n.kids.map encNd) ∧ s'.t 56 = .c (.int .i64 (n.kids.length : Nat)) ∧ s'.t 57 = .c (.int .i64 (i : Nat))) n.kids.length ?_ ?_
    · refine ⟨0, [], false, by simp, .inl ⟨?_, rfl, rfl⟩, (fun _ h => by cases h), by simp, (fun _ => ?_), (fun h => by cases h), ?_⟩
      · simp only [zs, simprocAttr]
      · rw [List.drop_zero]; cases allO (n.kids.map (Nd.denP evs)) <;> rfl
      all_goals simp only [zs, simprocAttr, ptrV]
      all_goals exact fn1
    rintro m s σ ⟨i, out, fl, hm, hA, hoo, hol, hno, hyes, e0, e3, l3, e55, e56, e57⟩
    have hkA := fun d => hA.held.kill d
    all_goals refine AW.sr (J2 e56 e57) ?_
    refine AW.seq_k fun K22 h22 => ?_
    refine AW.cd (decide (i < n.kids.length)) (fun hi => ?_) (fun hi => ?_)
    · have hi := of_decide_eq_true hi
      obtain ⟨x, hx, hxm, hg⟩ := kid_get hi
      have hw := wadd1 (a := i) (by omega)
      have hfx : FindC g evs x := ih x hxm (hn.kid hxm) (ho.kid hxm) (Nd.err_kid he hxm)
      have hsum : ((n.kids.take (i + 1)).map Nd.size).sum = ((n.kids.take i).map Nd.size).sum + x.size := by rw [List.take_add_one, hx, List.map_append, List.sum_append]; simp
      have hss := sum_take_le (n := n) (i := i + 1)
      have hxp := x.size_pos
      have hn' : n.size ≤ 1048576 := hn
      rw [kid_drop hx, List.map_cons] at hno
      refine AW.skip ?_
      simp only [zs, simprocAttr]
      all_goals apply_assumption
      refine AW.seq_k fun K23 h23 => ?_
      refine AW.block ?_   -- 4
      refine AW.sr (J12 hkA e0 e3 l3 e55 e56 e57 hi hg @nd @ptrV.eq_1 @List.length_map.{0,0}) ?_
      have hxn : x.size ≤ 1048576 := hn.kid hxm
      have hob : out.length ≤ 4311744512 := by split at hol <;> omega
      have hnext : ∀ full' lk, FindQ evs x fl full' lk → (∀ p ∈ out ++ lk, okF evs p) ∧ (out ++ lk).length ≤ (if full' then 16777216 else 0) + 4096 * ((n.kids.take (i + 1)).map Nd.size).sum ∧ (full' = false → allO (n.kids.map (Nd.denP evs)) = (allO ((n.kids.drop (i + 1)).map (Nd.denP evs))).map ((out ++ lk) ++ ·)) ∧ (full' = true → allO (n.kids.map (Nd.denP evs)) = none) := fun full' lk hq => by
        refine ⟨fun p hp => (List.mem_append.1 hp).elim (hoo p) (hq.of p), ?_, fun h => ?_, fun h => ?_⟩
        · rw [hsum, List.length_append]
          cases fl with
          | true =>
            rw [hq.nil rfl]
            cases full' with
            | true => simp only [if_true, List.length_nil, Nat.add_zero] at hol ⊢; omega
            | false => cases (hq.no rfl).1
          | false =>
            simp only [Bool.false_eq_true, if_false] at hol
            cases full' with
            | true => have := hq.len; simp only [if_true]; omega
            | false => have := (hq.no rfl).2.2; simp only [Bool.false_eq_true, if_false]; omega
        · obtain ⟨h1, h2, _⟩ := hq.no h
          rw [hno h1, h2, allO]
          cases allO ((n.kids.drop (i + 1)).map (Nd.denP evs)) <;> simp
        · rcases hq.yes h with h1 | h1
          · exact hyes h1
          · cases fl with
            | true => exact hyes rfl
            | false => rw [hno rfl, h1]; rfl
      rcases hA with ⟨e10, hn0, rfl⟩ | ⟨k, e10, hk0, rfl⟩
      · have hnil := hfx.nilS fl
        refine AW.reg0 ?_
        iterate 3 refine S.one (J10 e0 e3 l3 e55 e56 e57 e10 @ptrV.eq_1 @nd @List.length_map.{0,0}) ?_
        (refine S.g rfl rfl fun Y Z => ?_; simp only [zz, simprocAttr, -Int.reduceNatCast', -Int.reduceToNat, e0, e3, l3, e55, e56, e57, e10, ptrV, nd, List.length_map]; (first | (refine ACalls.to hnil ?_; rintro v1 σ2 ⟨full', lk, rfl, rfl, hfq⟩) | (refine ACalls.to hgl ?_; rintro v1 σ2 ⟨full', lk, rfl, rfl, hfq⟩)) <;> (refine Z _ _ ?_; clear Z Y))
        all_goals have q9q := J10 e0 e3 l3 e55 e56 e57 e10 @ptrV.eq_1 @nd @List.length_map.{0,0}
        all_goals (refine S.g rfl rfl fun Y Z => ?_; simp only [zz, simprocAttr, -Int.reduceNatCast', -Int.reduceToNat, tt, q9q]; refine ⟨(fun e he => by obtain ⟨a, _, rfl⟩ := List.mem_map.1 he; rfl), (by have := hfq.len; unfold maxLen; omega), (by have := hfq.len; unfold reach; omega), fun k1 hk1 => ?_⟩ <;> (refine Z _ _ ?_; clear Z Y))
        all_goals refine S.one q9q ?_
        all_goals (refine S.nil ?_; simp only [ze, simprocAttr, q9q]; apply_assumption)
        obtain ⟨n1, n2, n3, n4⟩ := hnext full' lk hfq
        all_goals have q10q := J7 e0 e3 l3 e55 e56 e57 hw
        all_goals refine AW.reg0 (S.rn q10q ?_)
        all_goals simp only [ze, simprocAttr, q10q]
        refine ⟨m - 1, by omega, i + 1, out ++ lk, full', by omega, .inr ⟨k1, rfl, hk1, by rw [hn0]; rfl⟩, n1, n2, n3, n4, ?_⟩
        all_goals exact fn1
      · have hgl := hfx.glS fl k out
        unfold hpP at hgl ⊢
        refine AW.reg0 ?_
        iterate 3 refine S.one (J10 e0 e3 l3 e55 e56 e57 e10 @ptrV.eq_1 @nd @List.length_map.{0,0}) ?_
        (refine S.g rfl rfl fun Y Z => ?_; simp only [zz, simprocAttr, -Int.reduceNatCast', -Int.reduceToNat, e0, e3, l3, e55, e56, e57, e10, ptrV, nd, List.length_map]; (first | (refine ACalls.to hnil ?_; rintro v1 σ2 ⟨full', lk, rfl, rfl, hfq⟩) | (refine ACalls.to hgl ?_; rintro v1 σ2 ⟨full', lk, rfl, rfl, hfq⟩)) <;> (refine Z _ _ ?_; clear Z Y))
        all_goals have q11q := J10 e0 e3 l3 e55 e56 e57 e10 @ptrV.eq_1 @nd @List.length_map.{0,0}
        all_goals (refine S.g rfl rfl fun Y Z => ?_; simp only [zz, simprocAttr, -Int.reduceNatCast', -Int.reduceToNat, tt, q11q]; refine ⟨(fun e he => by obtain ⟨a, _, rfl⟩ := List.mem_map.1 he; rfl), (by have := hfq.len; unfold maxLen; omega), (by have := hfq.len; unfold reach; omega), fun k1 hk1 => ?_⟩ <;> (refine Z _ _ ?_; clear Z Y))
        all_goals refine S.one q11q ?_
        all_goals (refine S.nil ?_; simp only [ze, simprocAttr, q11q]; apply_assumption)
        obtain ⟨n1, n2, n3, n4⟩ := hnext full' lk hfq
        all_goals have q12q := J7 e0 e3 l3 e55 e56 e57 hw
        all_goals refine AW.reg0 (S.rn q12q ?_)
        all_goals simp only [ze, simprocAttr, q12q]
        refine ⟨m - 1, by omega, i + 1, out ++ lk, full', by omega, .inr ⟨k1, rfl, rfl, ?_⟩, n1, n2, n3, n4, ?_⟩
        · rw [hpP, Hp.setGr_none (hpF_gr g evs full' k), List.map_append]
        all_goals exact fn1
    · have hi := of_decide_eq_false hi
      refine AW.exit ?_
      simp only [zs, simprocAttr]
      all_goals apply_assumption
      rw [List.drop_of_length_le (by omega)] at hno
      have hsz := sum_take_le (n := n) (i := i)
      have hn' : n.size ≤ 1048576 := hn
      have hob : out.length ≤ 16777216 + 4096 * n.size := by split at hol <;> omega
      have hnl := norm_len out
      have hNo : ∀ p ∈ norm out, okF evs p := fun p hp => hoo p ((norm_mem (from_apt hdi) (fun y hy => (hoo y hy).1) p).1 hp)
      have hq : FindQ evs n false (fl || decide (4096 < (norm out).length)) (norm out) := by
        refine ⟨hNo, by omega, fun h => ?_, fun h => .inr ?_, fun h => by cases h⟩
        · obtain ⟨h1, h2⟩ := Bool.or_eq_false_iff.1 h
          have h2 := of_decide_eq_false h2
          refine ⟨rfl, ?_, by omega⟩
          rw [hp0, orP, hno h1]
          show Option.bind (some (out ++ [])) _ = _
          rw [Option.bind_some, List.append_nil, capL, if_neg h2]
        · rw [hp0, orP]
          cases fl with
          | true => rw [hyes rfl]; rfl
          | false =>
            rw [hno rfl]
            show Option.bind (some (out ++ [])) _ = _
            rw [Option.bind_some, List.append_nil, capL, if_pos (by simpa using h)]
      rcases hA with ⟨e10, hn0, rfl⟩ | ⟨k, e10, hk0, rfl⟩
      · have honce := onceNil_spec g evs fl
        refine AW.seq_k fun K25 h25 => ?_
        refine AW.reg0 ?_
        iterate 2 refine S.one (J5 e0 e3 l3 e10 @ptrV.eq_1) ?_
        have q13q := J5 e0 e3 l3 e10 @ptrV.eq_1
        (refine S.g rfl rfl fun Y Z => ?_; simp only [zz, simprocAttr, -Int.reduceNatCast', -Int.reduceToNat, q13q]; (first | (refine ACalls.to honce ?_; rintro _ _ ⟨rfl, rfl⟩) | (refine ACalls.to honce ?_; rintro v2 σ3 hv)) <;> (refine Z _ _ ?_; clear Z Y))
        all_goals refine S.one q13q ?_
        all_goals (refine S.nil ?_; simp only [ze, simprocAttr, q13q]; apply_assumption)
        refine AW.ret ?_
        all_goals simp only [zs, simprocAttr]
        exact ⟨_, norm out, .inl ⟨rfl, by rw [hn0]; rfl, by rw [hn0]; cases fl <;> rfl⟩, hq⟩
      · have honce := once_spec (from_apt hdi) g evs fl k out (fun p hp => (hoo p hp).1) (by omega) (fun p hp => by have := (hoo p hp).2.len; omega)
        refine AW.seq_k fun K26 h26 => ?_
        refine AW.reg0 ?_
        iterate 2 refine S.one (J5 e0 e3 l3 e10 @ptrV.eq_1) ?_
        have q14q := J5 e0 e3 l3 e10 @ptrV.eq_1
        (refine S.g rfl rfl fun Y Z => ?_; simp only [zz, simprocAttr, -Int.reduceNatCast', -Int.reduceToNat, q14q]; (first | (refine ACalls.to honce ?_; rintro _ _ ⟨rfl, rfl⟩) | (refine ACalls.to honce ?_; rintro v2 σ3 hv)) <;> (refine Z _ _ ?_; clear Z Y))
        all_goals refine S.one q14q ?_
        all_goals (refine S.nil ?_; simp only [ze, simprocAttr, q14q]; apply_assumption)
        refine AW.ret ?_
        all_goals simp only [zs, simprocAttr]
        rcases hv with ⟨rfl, h2⟩ | ⟨k, rfl, h2⟩
        · exact ⟨rfl, _, norm out, .inl ⟨rfl, h2⟩, hq⟩
        · exact ⟨rfl, _, norm out, .inr ⟨k, rfl, h2⟩, hq⟩
  have h4 : ¬ n.kind = 4 := by simpa using h4
  refine AW.skip ?_
  all_goals simp only [zs, simprocAttr]
  all_goals apply_assumption
  have hk0 : 0 < n.kids.length := by
    have h0 := Nd.err_own he
    rw [ndOwn, if_neg hk] at h0
    split at h0
    · split at h0
      · cases h0
      · rename_i hb
        simp only [joinBad, Bool.or_eq_true, not_or, decide_eq_true_eq, Decidable.not_not] at hb
        omega
    · cases h0
  have hjoin := joined_spec hev hdi g n hn he hk0 hk h4 (fun x hxm => ih x hxm (hn.kid hxm) (ho.kid hxm) (Nd.err_kid he hxm))
  refine AW.seq_k fun K27 h27 => ?_
  all_goals refine AW.reg0 ?_
  all_goals iterate 2 refine S.one (J3 @ptrV.eq_1 @nd hE) ?_
  all_goals have q15q := J3 @ptrV.eq_1 @nd hE
  all_goals (refine S.g rfl rfl fun Y Z => ?_; simp only [zz, simprocAttr, -Int.reduceNatCast', -Int.reduceToNat, q15q]; (refine ACalls.to hjoin ?_; rintro v1 σ2 hv) <;> (refine Z _ _ ?_; clear Z Y))
  all_goals refine S.one q15q ?_
  all_goals (refine S.nil ?_; simp only [ze, simprocAttr, q15q]; apply_assumption)
  refine AW.ret ?_
  all_goals simp only [zs, simprocAttr]
  obtain ⟨full', l, hO, hq⟩ := hv
  rcases hO with ⟨rfl, h2⟩ | ⟨k, rfl, h2⟩
  · exact ⟨rfl, full', l, .inl ⟨rfl, h2⟩, hq⟩
  · exact ⟨rfl, full', l, .inr ⟨k, rfl, h2⟩, hq⟩
def evId (e : Ev) : Int × Int := (e.src, e.seq)
theorem clash_iff {evs : List Ev} {i : Nat} {x : Ev} (hx : evs[i]? = some x) : clashAt evs i = true ↔ (x.src, x.seq) ∈ (evs.take i).map evId := by
 have hi : i < evs.length := (List.getElem?_eq_some_iff.1 hx).1
 have hxd : evs.getD i noEv = x := by rw [List.getD_eq_getElem?_getD, hx]; rfl
 rw [clashAt, hxd, List.any_eq_true, List.mem_map]
 constructor
 ·rintro ⟨j, hj, h⟩
  have hj := List.mem_range.1 hj
  have hjl : j < evs.length := by omega
  simp only [sameEv, Bool.and_eq_true, beq_iff_eq] at h
  refine ⟨evs.getD j noEv, ?_, by rw [evId, h.1, h.2]⟩
  rw [List.getD_eq_getElem?_getD, List.getElem?_eq_getElem hjl]
  exact List.mem_iff_getElem?.2 ⟨j, by rw [List.getElem?_take, if_pos hj, List.getElem?_eq_getElem hjl]; rfl⟩
 ·rintro ⟨y, hy, h⟩
  obtain ⟨j, hj⟩ := List.getElem?_of_mem hy
  rw [List.getElem?_take] at hj
  split at hj
  ·rename_i hji
   refine ⟨j, List.mem_range.2 hji, ?_⟩
   rw [List.getD_eq_getElem?_getD, hj]
   rw [evId, Prod.mk.injEq] at h
   simp [sameEv, h]
  ·cases hj
theorem ids_step {evs : List Ev} {i : Nat} {x : Ev} (hx : evs[i]? = some x) : (evs.take (i + 1)).map evId = (evs.take i).map evId ++ [(x.src, x.seq)] := by
 rw [List.take_add_one, hx, List.map_append]; rfl
def NodeR (o : List (List Bd) × Int) (v : V) (σ' : Hp) : Prop := ∃ u, v = .tup [u, .c (.int .i64 o.2)] ∧ OwnP Hp.empty o.1 u σ' ∧ (∀ p ∈ o.1, okQ p) ∧ o.1.length ≤ 4096
theorem NodeR_nil (e : Int) : NodeR ([], e) (.tup [.sl [], .c (.int .i64 e)]) Hp.empty := ⟨.sl [], rfl, .inl ⟨rfl, rfl, rfl⟩, (fun _ h => by cases h), by simp⟩
theorem Node_spec (n : Nd) (hn : n.small) (ho : n.ok) (evs : List Ev) (hel : evs.length < 4611686018427387904) (heo : ∀ e ∈ evs, okE e) : ACalls Tryz.prog 11 [.agg (encNd n), .sl (evs.map encEv)] Hp.empty (NodeR (nodeOut n evs (n.denP evs))) := by
 have hmap := map3 evs
 refine ACalls.intro Tryz.call11 Tryz.func11 rfl Tryz.ntmps11 Tryz.results11 (by simp) ?_
 refine AW.sr @nd ?_
 refine AW.seq_k fun K2 h2 => ?_
 refine AW.seq_k fun K3 h3 => ?_
 refine AW.reg0 ?_
 refine S.one @nd ?_
 refine S.cl @nd (Shape_spec n hn ho) ?_
 all_goals refine S.one @nd ?_
 all_goals (refine S.nil ?_; simp only [ze, simprocAttr, nd]; apply_assumption)
 all_goals refine AW.sr trivial ?_
 refine AW.cd (n.shape != 0) (fun hb => ?_) (fun hb => ?_)
 ·have hb : n.shape ≠ 0 := by simpa using hb
  refine AW.sr trivial ?_
  refine AW.ret ?_
  simp only [zs, simprocAttr]
  rw [nodeOut, if_neg hb]
  exact NodeR_nil _
 have hsh : n.shape = 0 := by simpa using hb
 refine AW.skip ?_
 all_goals simp only [zs, simprocAttr]
 all_goals apply_assumption
 refine AW.seq_k fun K6 h6 => ?_
 refine AW.seq_k fun K7 h7 => ?_
 all_goals refine AW.reg0 ?_
 all_goals refine S.one @nd ?_
 all_goals refine S.cl @nd (Binds_spec n hn (shape_err hsh)) ?_
 all_goals refine S.one @nd ?_
 all_goals (refine S.nil ?_; simp only [ze, simprocAttr, nd]; apply_assumption)
 all_goals refine AW.sr trivial ?_
 refine AW.cd (n.binds != 0) (fun hb => ?_) (fun hb => ?_)
 ·have hb : n.binds ≠ 0 := by simpa using hb
  refine AW.sr trivial ?_
  refine AW.ret ?_
  simp only [zs, simprocAttr]
  rw [nodeOut, if_pos hsh, if_neg hb]
  exact NodeR_nil _
 have hbi : n.binds = 0 := by simpa using hb
 refine AW.skip ?_
 all_goals simp only [zs, simprocAttr]
 all_goals apply_assumption
 refine AW.seq_k fun K10 h10 => ?_
 all_goals refine AW.sr @List.length_map.{0,0} ?_
 refine AW.cd (decide ((evs.length : Int) > 64)) (fun hc => ?_) (fun hc => ?_)
 ·have h64 : 64 < evs.length := by have := of_decide_eq_true hc; omega
  refine AW.sr trivial ?_
  refine AW.ret ?_
  simp only [zs, simprocAttr]
  rw [nodeOut, if_pos hsh, if_pos hbi, if_pos h64]
  exact NodeR_nil _
 have h64 : ¬ 64 < evs.length := by have := of_decide_eq_false hc; omega
 refine AW.skip ?_
 all_goals simp only [zs, simprocAttr]
 all_goals apply_assumption
 refine AW.seq_j (fun s' σ' => ∃ gm, σ' = Hp.empty.setObj gm (some [.tup ([].map ent)]) ∧ s'.t 1 = .sl (evs.map encEv) ∧ s'.t 2 = .lp 2 0 ∧ s'.l 2 = some (encNd n) ∧ s'.t 8 = .c (.map (some gm))) ?_ ?_
 ·skip
  refine AW.reg0 ?_
  (refine S.g rfl rfl fun Y Z => ?_; simp only [zz, simprocAttr, -Int.reduceNatCast', -Int.reduceToNat]; intro gm hgm <;> (refine Z _ _ ?_; clear Z Y))
  all_goals refine S.one trivial ?_
  all_goals refine S.nil ?_
  all_goals simp only [ze, simprocAttr]
  refine ⟨gm, rfl, ?_⟩
  all_goals exact fn1
 rintro s σ ⟨gm, rfl, e1, e2, l2, e8⟩
 refine AW.seq_j (fun s' σ' => σ' = Hp.empty ∧ s'.t 1 = .sl (evs.map encEv) ∧ s'.t 2 = .lp 2 0 ∧ s'.l 2 = some (encNd n) ∧ evsBad evs = false) ?_ ?_
 ·refine AW.sr (J2 e1 @List.length_map.{0,0}) ?_
  refine AW.block ?_   -- 0
  refine AW.loop (fun m s σ => ∃ i : Nat, m + i = evs.length ∧ σ = Hp.empty.setObj gm (some [.tup (((evs.take i).map evId).map ent)]) ∧ (List.range i).any (badAt evs) = false ∧ s.t 1 = .sl (evs.map encEv) ∧ s.t 2 = .lp 2 0 ∧ s.l 2 = some (encNd n) ∧ s.t 8 = .c (.map (some gm)) ∧ s.t 27 = .sl (evs.map encEv) ∧ s.t 28 = .c (.int .i64 (evs.length : Nat)) ∧ s.t 29 = .c (.int .i64 (i : Nat))) evs.length ?_ ?_
  ·refine ⟨0, by simp, rfl, rfl, ?_⟩
   simp only [zs, simprocAttr, e1, e2, l2, e8]
   all_goals exact fn1
  rintro m s σ ⟨i, hm, rfl, hp, e1, e2, l2, e8, e27, e28, e29⟩
  all_goals refine AW.sr (J2 e28 e29) ?_
  refine AW.seq_k fun K15 h15 => ?_
  refine AW.cd (decide (i < evs.length)) (fun hi => ?_) (fun hi => ?_)
  ·have hi := of_decide_eq_true hi
   obtain ⟨x, hx, hxm, hgx⟩ : ∃ e, evs[i]? = some e ∧ e ∈ evs ∧ (evs.map encEv).getD i [] = encEv e := ⟨evs[i], List.getElem?_eq_getElem hi, List.getElem_mem hi, getD_map hi⟩
   have hw := wadd1 (a := i) (by omega)
   have hxo := heo x hxm
   have hbad : badAt evs i = true → nodeOut n evs (n.denP evs) = ([], 110) := fun hb => by
    rw [nodeOut, if_pos hsh, if_pos hbi, if_neg h64, if_pos (show evsBad evs = true from range_any hi hb)]
   have hba : badAt evs i = (!(evErr x == 0) || clashAt evs i) := by rw [badAt, List.getD_eq_getElem?_getD, hx]; rfl
   have hcl := clash_iff hx
   have hids := ids_step hx
   have hsn := entV_seen ((evs.take i).map evId) x.src x.seq 0
   have hstep := range_anyS (p := badAt evs) i
   generalize (evs.take i).map evId = sn at *
   generalize hsn1 : (evs.take (i + 1)).map evId = sn1 at *
   refine AW.skip ?_
   simp only [zs, simprocAttr]
   all_goals apply_assumption
   refine AW.seq_j (fun s' σ' => σ' = Hp.empty.setObj gm (some [.tup (sn1.map ent)]) ∧ badAt evs i = false ∧ s'.t 1 = .sl (evs.map encEv) ∧ s'.t 2 = .lp 2 0 ∧ s'.l 2 = some (encNd n) ∧ s'.t 8 = .c (.map (some gm)) ∧ s'.t 27 = .sl (evs.map encEv) ∧ s'.t 28 = .c (.int .i64 (evs.length : Nat)) ∧ s'.t 29 = .c (.int .i64 (i : Nat))) ?_ ?_
   ·refine AW.block ?_   -- 1
    refine AW.sr (J11 e1 e2 l2 e8 e27 e28 e29 hi hgx @encEv.eq_1 @List.length_map.{0,0}) ?_
    refine AW.seq_k fun K17 h17 => ?_
    refine AW.seq_j (fun s' σ' => σ' = Hp.empty.setObj gm (some [.tup (sn.map ent)]) ∧ s'.t 1 = .sl (evs.map encEv) ∧ s'.t 2 = .lp 2 0 ∧ s'.l 2 = some (encNd n) ∧ s'.t 8 = .c (.map (some gm)) ∧ s'.t 10 = .lp 10 0 ∧ s'.l 10 = some (encEv x) ∧ s'.t 27 = .sl (evs.map encEv) ∧ s'.t 28 = .c (.int .i64 (evs.length : Nat)) ∧ s'.t 29 = .c (.int .i64 (i : Nat)) ∧ s'.t 41 = .c (.bool (badAt evs i))) ?_ ?_
    ·rw [hba]
     rcases hsn with ⟨hs1, hs2⟩ | ⟨hs1, jj, hs2⟩
     ·have hclf : clashAt evs i = false := by
       cases h : clashAt evs i
       ·rfl
       ·exact absurd (hcl.1 h) hs1
      rw [hclf]
      refine AW.reg0 ?_
      refine S.one (J9 e1 e2 l2 e8 e27 e28 e29 @encEv.eq_1 hs2) ?_
      have q1q := J9 e1 e2 l2 e8 e27 e28 e29 @encEv.eq_1 hs2
      refine S.cl q1q (check_ev x hxo) ?_
      all_goals (refine S.sp q1q fun b a35 => ?_; cases b <;> (try exact nope a35))
      all_goals iterate 4 refine S.one q1q ?_
      all_goals have q2q := J9 e1 e2 l2 e8 e27 e28 e29 @encEv.eq_1 hs2
      all_goals (first | (refine S.y rfl rfl rfl rfl fun Y Z => ?_; simp only [zn, simprocAttr, -Int.reduceNatCast', -Int.reduceToNat, q2q]; refine ⟨_, _, _, Tryz.underlying70, key45, rfl, entOk_seen _, ?_⟩; (try simp only [tt, ofC, Option.some.injEq, exists_eq_left', zz, simprocAttr, -Int.reduceNatCast', -Int.reduceToNat, e1, e2, l2, e8, e27, e28, e29, encEv, hs2]) <;> (refine Z _ _ ?_; clear Z Y)) | refine S.one trivial ?_)
      all_goals refine S.one q2q ?_
      all_goals refine S.nil ?_
      all_goals simp only [ze, simprocAttr, q2q]
      all_goals simp_all [encEv, bne]
     ·rw [hcl.2 hs1]
      refine AW.reg0 ?_
      refine S.one (J9 e1 e2 l2 e8 e27 e28 e29 @encEv.eq_1 hs2) ?_
      have q3q := J9 e1 e2 l2 e8 e27 e28 e29 @encEv.eq_1 hs2
      refine S.cl q3q (check_ev x hxo) ?_
      all_goals (refine S.sp q3q fun b a35 => ?_; cases b <;> (try exact nope a35))
      all_goals iterate 4 refine S.one q3q ?_
      all_goals have q4q := J9 e1 e2 l2 e8 e27 e28 e29 @encEv.eq_1 hs2
      all_goals (first | (refine S.y rfl rfl rfl rfl fun Y Z => ?_; simp only [zn, simprocAttr, -Int.reduceNatCast', -Int.reduceToNat, q4q]; refine ⟨_, _, _, Tryz.underlying70, key45, rfl, entOk_seen _, ?_⟩; (try simp only [tt, ofC, Option.some.injEq, exists_eq_left', zz, simprocAttr, -Int.reduceNatCast', -Int.reduceToNat, e1, e2, l2, e8, e27, e28, e29, encEv, hs2]) <;> (refine Z _ _ ?_; clear Z Y)) | refine S.one trivial ?_)
      all_goals refine S.one q4q ?_
      all_goals refine S.nil ?_
      all_goals simp only [ze, simprocAttr, q4q]
      all_goals simp_all [encEv, bne]
    rintro s2 σ2 ⟨rfl, e1, e2, l2, e8, e10, l10, e27, e28, e29, e41⟩
    refine AW.cond (b := badAt evs i) e41 (fun hc => ?_) (fun hc => ?_)
    ·refine AW.bare ?_
     refine AW.sr trivial ?_
     refine AW.ret ?_
     simp only [zs, simprocAttr]
     rw [hbad hc]
     exact NodeR_nil _
    have hnot : (x.src, x.seq) ∉ sn := fun h => by
     rw [hba, Bool.or_eq_false_iff] at hc
     rw [hcl.2 h] at hc; cases hc.2
    have hs2 : entV (sn.map ent) (.agg ⟨[.int .i64 x.src, .int .i64 x.seq]⟩) 0 = none := by
     rcases hsn with ⟨_, h⟩ | ⟨h, _⟩
     ·exact h
     ·exact absurd h hnot
    refine AW.skip ?_
    all_goals simp only [zs, simprocAttr]
    all_goals apply_assumption
    rw [encEv] at l10
    all_goals refine AW.reg0 ?_
    all_goals iterate 3 refine S.one (J11 e1 e2 l2 e8 e10 l10 e27 e28 e29 @encEv.eq_1 hs2) ?_
    all_goals have q5q := J11 e1 e2 l2 e8 e10 l10 e27 e28 e29 @encEv.eq_1 hs2
    all_goals (refine S.g rfl rfl fun Y Z => ?_; simp only [zn, simprocAttr, -Int.reduceNatCast', -Int.reduceToNat, q5q]; refine ⟨_, _, _, Tryz.underlying70, key45, rfl, entOk_seen _, ?_⟩; (try simp only [tt, ofC, Option.some.injEq, exists_eq_left', zz, simprocAttr, -Int.reduceNatCast', -Int.reduceToNat, e1, e2, l2, e8, e10, l10, e27, e28, e29, encEv, hs2]) <;> (refine Z _ _ ?_; clear Z Y))
    all_goals refine S.nil ?_
    all_goals simp only [ze, simprocAttr, q5q]
    refine ⟨by rw [hids, List.map_append]; rfl, ?_⟩
    all_goals ((try and_intros) <;> first | rfl | assumption | (exact hc))
   rintro s2 σ2 ⟨rfl, hc, e1, e2, l2, e8, e27, e28, e29⟩
   all_goals have q6q := J8 e1 e2 l2 e8 e27 e28 e29 hw
   all_goals refine AW.reg0 (S.rn q6q ?_)
   all_goals simp only [ze, simprocAttr, q6q]
   refine ⟨m - 1, by omega, i + 1, by omega, by rw [hsn1], by rw [hstep, hp, hc]; rfl, ?_⟩
   all_goals exact fn1
  ·have hi := of_decide_eq_false hi
   refine AW.bare (AW.exit ?_)
   simp only [zs, simprocAttr]
   rw [show i = evs.length by omega] at hp
   all_goals ((try and_intros) <;> first | rfl | assumption | (exact hp))
 rintro s σ ⟨rfl, e1, e2, l2, hbad⟩
 obtain ⟨hz, hdist⟩ := evsBad_no hbad
 have hevs : okEvs evs := ⟨by omega, heo, fun e he => few_of (hz e he), fun e he => time_in (hz e he)⟩
 have hout : nodeOut n evs (n.denP evs) = optO (n.denP evs) := by
  rw [nodeOut, if_pos hsh, if_pos hbi, if_neg h64, if_neg (by rw [hbad]; exact Bool.false_ne_true)]
 rw [hout]
 have hfindC := fun g => find_spec hevs hdist hz g n hn ho (shape_err hsh)
 refine AW.seq_k fun K19 h19 => ?_
 all_goals refine AW.region (T := { hp := fun d => d == 48 }) (fun _ _ h => by cases h) rfl ?_
 all_goals iterate 2 refine S.one (J2 e1 @map3) ?_
 all_goals (refine S.g rfl rfl fun Y Z => ?_; simp only [zz, simprocAttr, -Int.reduceNatCast', -Int.reduceToNat, tt, e1, map3]; intro gf hgf <;> (refine Z _ _ ?_; clear Z Y))
 all_goals refine S.one (J2 e1 @map3) ?_
 all_goals (refine S.nil ?_; simp only [ze, simprocAttr, e1, map3]; apply_assumption)
 have hempty : (Hp.empty.setObj gf (some [.sl (evs.map encEv), .c (.bool false)])) = hpF gf evs false := rfl
 rw [hempty]
 have hfind := hfindC gf false
 refine AW.seq_k fun K20 h20 => ?_
 all_goals refine AW.reg0 ?_
 all_goals iterate 2 refine S.one (J4 e2 l2 @nd @ptrV.eq_1) ?_
 all_goals have q7q := J4 e2 l2 @nd @ptrV.eq_1
 all_goals (refine S.g rfl rfl fun Y Z => ?_; simp only [zz, simprocAttr, -Int.reduceNatCast', -Int.reduceToNat, q7q]; (refine ACalls.to hfind ?_; rintro v1 σ2 ⟨full', l, hO, hq⟩) <;> (refine Z _ _ ?_; clear Z Y))
 all_goals refine S.one q7q ?_
 all_goals (refine S.nil ?_; simp only [ze, simprocAttr, q7q]; apply_assumption)
 have hobj2 : σ2.obj gf = some [.sl (evs.map encEv), .c (.bool full')] := by rw [hO.held.obj]; exact hpF_obj gf evs full'
 refine AW.seq_k fun K21 h21 => ?_
 all_goals refine AW.sr (J2 hobj2 hmap) ?_
 refine AW.cd full' (fun hb => ?_) (fun hb => ?_)
 ·have hd : n.denP evs = none := (hq.yes hb).resolve_left (by simp)
  refine AW.bare ?_
  refine AW.sr trivial ?_
  refine AW.ret ?_
  simp only [zs, simprocAttr]
  rw [hd]
  exact NodeR_nil _
 have hd := (hq.no hb).2.1
 have hlen := (hq.no hb).2.2
 subst hb
 refine AW.skip ?_
 all_goals simp only [zs, simprocAttr]
 all_goals apply_assumption
 rw [hd]
 rcases hO with ⟨rfl, rfl, rfl⟩ | ⟨k, rfl, hk, rfl⟩
 ·refine AW.bare ?_
  refine AW.sr trivial ?_
  refine AW.ret ?_
  simp only [zs, simprocAttr]
  exact NodeR_nil _
 ·refine AW.sub (σ' := hpP Hp.empty k l) (fun g c h => by cases h) (fun k' x h => by
   by_cases e : k' = k
   ·subst e; exact h
   ·simp [hpP, e, Hp.empty] at h) ?_
  all_goals refine AW.sr trivial ?_
  refine AW.ret ?_
  all_goals simp only [zs, simprocAttr]
  exact ⟨.gl k, rfl, .inr ⟨k, rfl, rfl, rfl⟩, (fun p hp => (hq.of p hp).2), hlen⟩
theorem filt_step {p : List Bd → Bool} {l : List (List Bd)} {i : Nat} {x : List Bd} (h : l[i]? = some x) : (l.take (i + 1)).filter p = (l.take i).filter p ++ if p x then [x] else [] := by
 rw [List.take_add_one, h, List.filter_append]
 congr 1
 cases hp : p x <;> simp [hp]
theorem delete_spec {c : V} {g : Nat} {p : List Bd → Bool} (k : Nat) (l : List (List Bd)) (hl : l.length < 4611686018427387904) (hk : wk c = c) (hv : okV c = true) (hfz : ∀ k es, fz1 k es c = c) (hkl : ∀ d, kill d c = c) (hf : ∀ a ∈ l, PCalls Tryz.prog g [.agg (encP a), c] (fun v => v = .c (.bool (p a)))) :
  ACalls Tryz.prog 53 [.gl k, .fn (.func g) [] [c]] (hpP Hp.empty k l) (fun v σ' => ∃ k', v = .gl k' ∧ σ' = hpP Hp.empty k' (l.filter fun q => !p q)) := by
 have ho : (hpP Hp.empty k l).gr k = some ((40, 1), l.map encP) := by simp [hpP]
 have hidx0 := idx57_spec (p := p) l hl hk hv hf
 have hidx : ACalls Tryz.prog 57 [.gl k, .fn (.func g) [] [c]] (hpP Hp.empty k l) (fun v σ' => v = .c (.int .i64 (idxB p 0 l)) ∧ σ' = hpP Hp.empty k l) := by
  have h1 : PCalls Tryz.prog 57 ([V.gl k, .fn (.func g) [] [c]].map (fzV k (l.map encP))) (fun v => v = .c (.int .i64 (idxB p 0 l))) := by simpa [fzV, fz1] using hidx0
  exact (PCalls.lend h1 ho fun v h => ⟨_, h⟩).to fun v σ' ⟨h1, h2⟩ => ⟨h2, h1⟩
 refine ACalls.intro Tryz.call53 Tryz.func53 rfl Tryz.ntmps53 Tryz.results53 (by simp) ?_
 refine AW.sr (J2 hk hv) ?_
 refine AW.seq_k fun K2 h2 => ?_
 refine AW.reg0 ?_
 iterate 2 refine S.one (J2 hk hv) ?_
 (refine S.g rfl rfl fun Y Z => ?_; simp only [zz, simprocAttr, -Int.reduceNatCast', -Int.reduceToNat, hk, hv]; (refine ACalls.to hidx ?_; rintro _ _ ⟨rfl, rfl⟩) <;> (refine Z _ _ ?_; clear Z Y))
 all_goals refine S.one (J2 hk hv) ?_
 all_goals (refine S.nil ?_; simp only [ze, simprocAttr, hk, hv]; apply_assumption)
 refine AW.seq_k fun K3 h3 => ?_
 all_goals refine AW.sr trivial ?_
 refine AW.cond (b := decide (idxB p 0 l = -1)) (by simp [ev]; rfl) (fun h2 => ?_) (fun h2 => ?_)
 ·have h2 := of_decide_eq_true h2
  have hc : l.filter (fun q => !p q) = l := by
   rcases idxB_cases p l 0 with ⟨_, h⟩ | ⟨i, x, h, _⟩
   ·rw [List.filter_eq_self]; intro q hq; rw [h q hq]; rfl
   ·rw [h] at h2; omega
  refine AW.sr trivial ?_
  refine AW.ret ?_
  simp only [zs, simprocAttr]
  exact ⟨k, rfl, by rw [hc]⟩
 have h2 := of_decide_eq_false h2
 obtain ⟨i, x0, hix, hx0, hpx0, hpre⟩ : ∃ i x0, idxB p 0 l = ((i : Nat) : Int) ∧ l[i]? = some x0 ∧ p x0 = true ∧ ∀ y ∈ l.take i, p y = false := by
  rcases idxB_cases p l 0 with ⟨h, _⟩ | ⟨i, x, h, h1, h3, h4⟩
  ·exact absurd h h2
  ·exact ⟨i, x, by simpa using h, h1, h3, h4⟩
 have hil : i < l.length := (List.getElem?_eq_some_iff.1 hx0).1
 have hw0 := wadd1 (a := i) (by omega)
 have hinit : (l.take (i + 1)).filter (fun q => !p q) = l.take i := by
  rw [filt_step hx0, hpx0]
  simp only [Bool.not_true, Bool.false_eq_true, if_false, List.append_nil]
  rw [List.filter_eq_self]; intro q hq; rw [hpre q hq]; rfl
 rw [hix]
 refine AW.skip ?_
 all_goals simp only [zs, simprocAttr]
 all_goals apply_assumption
 refine AW.seq_k fun K6 h6 => ?_
 all_goals refine AW.sr hw0 ?_
 refine AW.block ?_   -- 0
 refine AW.loop (fun m s σ => ∃ (q j : Nat) (es : List (List Bd)), m + j = l.length + i + 1 ∧ q < j ∧ j ≤ l.length ∧ es.length = l.length ∧ es.drop j = l.drop j ∧ (l.take j).filter (fun q => !p q) = es.take q ∧ σ = hpP Hp.empty k es ∧ s.t 0 = .gl k ∧ s.t 1 = .fn (.func g) [] [c] ∧ s.t 5 = .c (.int .i64 (q : Nat)) ∧ s.t 6 = .c (.int .i64 (j : Nat))) l.length ?_ ?_
 ·refine ⟨i, i + 1, l, by omega, by omega, by omega, rfl, rfl, hinit, rfl, ?_⟩
  simp only [zs, simprocAttr]
  all_goals exact fn1
 rintro m s σ ⟨q, j, es, hm, hqj, hjl, hel, hed, hq, rfl, e0, e1, e5, e6⟩
 have ho2 : (hpP Hp.empty k es).gr k = some ((40, 1), es.map encP) := by simp [hpP]
 refine AW.seq_k fun K8 h8 => ?_
 all_goals refine AW.sr (J5 ho2 e0 e6 @List.length_map.{0,0} hel) ?_
 refine AW.cd (decide (j < l.length)) (fun hj => ?_) (fun hj => ?_)
 ·have hj := of_decide_eq_true hj
  obtain ⟨x, hx, hxm, hg, hd, hgx⟩ := part_get hj
  have hex : es[j]? = some x := by
   have := congrArg (fun t : List (List Bd) => t[0]?) hed
   simp only [List.getElem?_drop, Nat.add_zero] at this
   rw [this, hx]
  have hgx2 : (es.map encP).getD j [] = encP x := by rw [List.getD_eq_getElem?_getD, List.getElem?_map, hex]; rfl
  have hwj := wadd1 (a := j) (by omega)
  have hwq := wadd1 (a := q) (by omega)
  have hin1 : j < es.length := by omega
  have hin3 : q < es.length := by omega
  have hdr : es.drop (j + 1) = l.drop (j + 1) := by
   have := congrArg (List.drop 1) hed
   rwa [List.drop_drop, List.drop_drop] at this
  have hgq : ((es.map encP).getD q []).length = 1 := by rw [getD_map hin3]; rfl
  have hst := filt_step (p := fun q => !p q) hx
  refine AW.skip ?_
  all_goals simp only [zs, simprocAttr]
  all_goals apply_assumption
  refine AW.seq_j (fun s' σ' => ∃ (q' : Nat) (es' : List (List Bd)), q' < j + 1 ∧ es'.length = l.length ∧ es'.drop (j + 1) = l.drop (j + 1) ∧ (l.take (j + 1)).filter (fun q => !p q) = es'.take q' ∧ σ' = hpP Hp.empty k es' ∧ s'.t 0 = .gl k ∧ s'.t 1 = .fn (.func g) [] [c] ∧ s'.t 5 = .c (.int .i64 (q' : Nat)) ∧ s'.t 6 = .c (.int .i64 (j : Nat))) ?_ ?_
  ·refine AW.block ?_   -- 1
   refine AW.sr (J12 ho2 e0 e1 e5 e6 hin1 hgx2 @encP.eq_1 hkl @kill.eq_1 @kill.eq_2 @List.length_map.{0,0}) ?_
   refine AW.seq_k fun K11 h11 => ?_
   refine AW.reg0 ?_
   iterate 2 refine S.one (J7 e1 hkl @kill.eq_1 @kill.eq_2 hk hv @Bool.and_self) ?_
   have q1q := J7 e1 hkl @kill.eq_1 @kill.eq_2 hk hv @Bool.and_self
   refine S.cl q1q (hf x hxm) ?_
   all_goals refine S.one q1q ?_
   all_goals (refine S.nil ?_; simp only [ze, simprocAttr, q1q]; apply_assumption)
   refine AW.cd (!p x) (fun hc => ?_) (fun hc => ?_)
   ·rw [hc, if_pos rfl] at hst
    refine AW.seq_k fun K12 h12 => ?_
    unfold hpP at ho2 ⊢
    refine AW.reg0 (S.rn (J12 ho2 e0 e1 e5 e6 hin3 hgq @encP.eq_1 @kill.eq_1 @kill.eq_2 @List.length_map.{0,0} @List.length_set.{0}) ?_)
    all_goals apply_assumption
    have q2q := J7 e0 e1 e5 e6 @kill.eq_1 @kill.eq_2 hwq
    refine AW.reg0 (S.rn q2q ?_)
    simp only [ze, simprocAttr, q2q]
    refine ⟨q + 1, es.set q x, by omega, by simp [hel], ?_, ?_, ?_, ?_⟩
    ·rw [List.drop_set_of_lt (by omega)]; exact hdr
    ·rw [hst, hq, List.take_set, take_get hin3, List.set_append_right _ _ (by simp; omega)]
     simp [Nat.min_eq_left (Nat.le_of_lt hin3), List.append_assoc]
    ·have hd1 : List.drop 1 ((es.map encP).getD q []) = [] := by rw [getD_map hin3]; rfl
     rw [hd1, hpP, List.map_set]; rfl
    all_goals exact fn1
   ·rw [hc, if_neg Bool.false_ne_true, List.append_nil] at hst
    refine AW.skip ?_
    simp only [zs, simprocAttr, e0, e1, e5, e6, kill]
    refine ⟨q, es, by omega, hel, hdr, by rw [hst, hq], ?_⟩
    all_goals exact fn1
  rintro s2 σ ⟨q', es', hq', hel', hed', hp', rfl, e0, e1, e5, e6⟩
  all_goals have q3q := J5 e6 e0 e1 e5 hwj
  all_goals refine AW.reg0 (S.rn q3q ?_)
  all_goals simp only [ze, simprocAttr, q3q]
  refine ⟨m - 1, by omega, q', j + 1, es', by omega, hq', by omega, hel', hed', hp', rfl, ?_⟩
  all_goals exact fn1
 ·have hj := of_decide_eq_false hj
  refine AW.exit ?_
  simp only [zs, simprocAttr]
  all_goals apply_assumption
  rw [List.take_of_length_le (by omega)] at hq
  have z2 : (∀ (e : List V), e ∈ es.map encP → e.length = 1) = True := eq_true (len_part es)
  have hp1 : 0 < es.length := by omega
  have hqe : q ≤ es.length := by omega
  have hqs : q + (es.length - q) ≤ es.length := by omega
  refine AW.sr (J8 ho2 e0 e5 z2 hp1 hqe hqs @List.length_map.{0,0}) ?_
  refine AW.seq_k fun K14 h14 => ?_
  refine AW.reg0 ?_
  iterate 2 refine S.one (J2 e0 e5) ?_
  (refine S.g rfl rfl fun Y Z => ?_; simp only [zz, simprocAttr, -Int.reduceNatCast', -Int.reduceToNat, tt, e0, e5]; refine ⟨by simp; omega, fun k1 hk1 => ?_⟩ <;> (refine Z _ _ ?_; clear Z Y))
  all_goals refine S.one (J2 e0 e5) ?_
  all_goals (refine S.nil ?_; simp only [ze, simprocAttr, e0, e5]; apply_assumption)
  refine AW.ret ?_
  all_goals simp only [zs, simprocAttr]
  refine ⟨k1, rfl, ?_⟩
  rw [hq, List.append_assoc, take_cut (by simp; omega)]
  simp [hpP]
theorem deleteNil_spec {c : V} {g : Nat} (hk : wk c = c) (hv : okV c = true) : PCalls Tryz.prog 53 [.sl [], .fn (.func g) [] [c]] (fun v => v = .sl []) := by
 have hidx := idx57_spec (p := fun _ => false) (g := g) [] (by simp) hk hv (fun _ h => by cases h)
 rw [show (([] : List (List Bd)).map encP) = [] from rfl] at hidx
 refine PCalls.intro Tryz.call53 Tryz.func53 rfl Tryz.ntmps53 Tryz.results53 (by simp) ?_
 all_goals refine AW.sr (J2 hk hv) ?_
 refine AW.seq_k fun K2 h2 => ?_
 all_goals refine AW.reg0 ?_
 all_goals iterate 2 refine S.one (J4 hk hv @Bool.and_self @Bool.and_true) ?_
 all_goals have q1q := J4 hk hv @Bool.and_self @Bool.and_true
 all_goals refine S.cl q1q hidx ?_
 all_goals refine S.one q1q ?_
 all_goals (refine S.nil ?_; simp only [ze, simprocAttr, q1q]; apply_assumption)
 refine AW.seq_k fun K3 h3 => ?_
 all_goals refine AW.sr (J2 @idxB.eq_1 @idxB.eq_2) ?_
 refine AW.cd true (fun h2 => ?_) (fun h2 => by cases h2)
 all_goals refine AW.sr trivial ?_
 refine AW.ret ?_
 all_goals simp only [zs, simprocAttr]
 all_goals exact fn1
theorem nothold_spec (p : Pat) (hp : okPat p) (hwi : inI64 p.within) (q : List Bd) (hq : okQ q) : PCalls Tryz.prog 54 [.agg (encP q), cap (encPat p)] (fun v => v = .c (.bool (!matchB p q))) := by
 show PCalls Tryz.prog 54 [.agg (encP q), cap (encPat p)] (fun v => v = .c (.bool (!holdB p q)))
 refine PCalls.intro Tryz.call54 Tryz.func54 rfl Tryz.ntmps54 Tryz.results54 (by simp) ?_
 refine AW.sr @encP.eq_1 ?_
 refine AW.seq_k fun K2 h2 => ?_
 refine AW.reg0 ?_
 have q1q := J3 @encP.eq_1 @cap.eq_1 @encPat.eq_1
 iterate 2 refine S.one q1q ?_
 (refine S.g rfl rfl fun Y Z => ?_; simp only [zz, simprocAttr, -Int.reduceNatCast', -Int.reduceToNat, q1q]; refine PCalls.eqto (holds_spec p q (fun b hb => by have := hq.few b hb; omega) (by have := hq.len; omega) hq.time hwi hp.len) ?_ <;> (refine Z _ _ ?_; clear Z Y))
 all_goals iterate 2 refine S.one q1q ?_
 all_goals (refine S.nil ?_; simp only [ze, simprocAttr, q1q]; apply_assumption)
 refine AW.ret ?_
 all_goals simp only [zs, simprocAttr]
 all_goals exact fn1
theorem All_P (p : Pat) (hp : okPat p) (evs : List Ev) (hel : evs.length < 4611686018427387904) (heo : ∀ e ∈ evs, okE e) :
  ACalls Tryz.prog 20 [.agg (encPat p), .sl (evs.map encEv)] Hp.empty (NodeR (allOut p (nodeOut p.node evs (p.node.denP evs)))) := by
 have hE := (encNd_eq p.node).symm
 have hnode := Node_spec p.node hp.small hp.ok evs hel heo
 generalize nodeOut p.node evs (p.node.denP evs) = o at hnode ⊢
 obtain ⟨l, e⟩ := o
 refine ACalls.intro Tryz.call20 Tryz.func20 rfl Tryz.ntmps20 Tryz.results20 (by simp) ?_
 refine AW.sr @encPat.eq_1 ?_
 refine AW.seq_j (fun s' σ' => σ' = Hp.empty ∧ s'.t 1 = .sl (evs.map encEv) ∧ s'.t 2 = .lp 2 0 ∧ s'.l 2 = some (encPat p) ∧ patErr p = 0) ?_ ?_
 ·refine AW.seq_k fun K2 h2 => ?_
  refine AW.reg0 ?_
  refine S.one @encPat.eq_1 ?_
  refine S.cl @encPat.eq_1 (Pattern_spec p hp) ?_
  all_goals refine S.one @encPat.eq_1 ?_
  all_goals (refine S.nil ?_; simp only [ze, simprocAttr, encPat]; apply_assumption)
  all_goals refine AW.sr trivial ?_
  refine AW.cd (patErr p != 0) (fun hb => ?_) (fun hb => ?_)
  ·have hb : patErr p ≠ 0 := by simpa using hb
   refine AW.sr trivial ?_
   refine AW.ret ?_
   simp only [zs, simprocAttr]
   rw [allOut, if_neg hb]
   exact NodeR_nil _
  ·have hb : patErr p = 0 := by simpa using hb
   refine AW.skip ?_
   simp only [zs, simprocAttr]
   all_goals ((try and_intros) <;> first | rfl | assumption | (exact hb))
 rintro s σ ⟨rfl, e1, e2, l2, hpe⟩
 have l2' := l2
 rw [encPat] at l2'
 have hwi := within_in hpe
 refine AW.seq_k fun K5 h5 => ?_
 all_goals refine AW.reg0 ?_
 all_goals iterate 3 refine S.one (J5 e1 e2 l2' hE @nd) ?_
 all_goals have q1q := J5 e1 e2 l2' hE @nd
 all_goals (refine S.g rfl rfl fun Y Z => ?_; simp only [zz, simprocAttr, -Int.reduceNatCast', -Int.reduceToNat, q1q]; (refine ACalls.to hnode ?_; rintro _ σ1 ⟨u, rfl, hown, hok, hlen⟩) <;> (refine Z _ _ ?_; clear Z Y))
 all_goals iterate 5 refine S.one q1q ?_
 all_goals (refine S.nil ?_; simp only [ze, simprocAttr, q1q]; apply_assumption)
 refine AW.gen (fun s' => s'.t 2 = .lp 2 0 ∧ s'.l 2 = some (encPat p) ∧ s'.t 7 = u ∧ s'.t 8 = .c (.int .i64 e)) ?_ ?_
 ·simp only [zs, simprocAttr, e2, l2, encPat]
  all_goals exact fn1
 rintro s ⟨e2, l2, e7, e8⟩
 refine AW.seq_k fun K6 h6 => ?_
 all_goals refine AW.sr e8 ?_
 refine AW.cd (e != 0) (fun hb => ?_) (fun hb => ?_)
 ·have hb : e ≠ 0 := by simpa using hb
  refine AW.bare ?_
  refine AW.sr e8 ?_
  refine AW.ret ?_
  simp only [zs, simprocAttr]
  rw [allOut, if_pos hpe, if_neg hb]
  exact NodeR_nil _
 have hb : e = 0 := by simpa using hb
 subst hb
 refine AW.skip ?_
 all_goals simp only [zs, simprocAttr]
 all_goals apply_assumption
 refine AW.gen (fun s' => s'.t 2 = .lp 2 0 ∧ s'.l 2 = some (encPat p) ∧ s'.t 7 = u) ?_ ?_
 ·simp only [zs, simprocAttr, e2, l2, e7]
  all_goals exact fn1
 rintro s ⟨e2, l2, e7⟩
 refine AW.hushBox l2 (by simp [encPat]) ?_
 have hku : bxV 2 (encPat p) u = u := by rcases hown with ⟨rfl, _⟩ | ⟨k, rfl, _⟩ <;> rfl
 have f2 : (s.bx 2 (encPat p)).t 2 = cap (encPat p) := by simp [e2, bxV, cap]
 have f7 : (s.bx 2 (encPat p)).t 7 = u := by simp [e7, hku]
 generalize s.bx 2 (encPat p) = s at *
 have hR : allOut p (l, 0) = (l.filter (matchB p), 0) := by rw [allOut, if_pos hpe, if_pos rfl]
 have hok : ∀ q ∈ l, okQ q := hok
 have hlen : l.length ≤ 4096 := hlen
 rcases hown with ⟨rfl, hl0, rfl⟩ | ⟨k, rfl, hk0, rfl⟩
 ·have hl0 : l = [] := hl0
  have hdel : ACalls Tryz.prog 53 [.sl [], .fn (.func 54) [] [cap (encPat p)]] Hp.empty (fun v σ' => v = .sl [] ∧ σ' = Hp.empty) := (deleteNil_spec (cap_wk _) (cap_ok _)).to fun v h => ⟨h, rfl⟩
  refine AW.seq_k fun K9 h9 => ?_
  refine AW.reg0 ?_
  iterate 2 refine S.one (J3 f2 f7 @cap_ok) ?_
  have q2q := J3 f2 f7 @cap_ok
  (refine S.g rfl rfl fun Y Z => ?_; simp only [zz, simprocAttr, -Int.reduceNatCast', -Int.reduceToNat, q2q]; (first | (refine ACalls.to hdel ?_; rintro _ _ ⟨rfl, rfl⟩) | (refine ACalls.to hdel ?_; rintro _ _ ⟨kr, rfl, rfl⟩)) <;> (refine Z _ _ ?_; clear Z Y))
  all_goals iterate 2 refine S.one q2q ?_
  all_goals (refine S.nil ?_; simp only [ze, simprocAttr, q2q]; apply_assumption)
  refine AW.ret ?_
  all_goals simp only [zs, simprocAttr]
  rw [hR, hl0]
  exact NodeR_nil _
 ·have hdel := delete_spec (p := fun q => !matchB p q) k l (by omega) (cap_wk (encPat p)) (cap_ok _) (fun _ _ => rfl) (fun _ => rfl) (fun q hq => nothold_spec p hp hwi q (hok q hq))
  simp only [Bool.not_not] at hdel
  refine AW.seq_k fun K10 h10 => ?_
  refine AW.reg0 ?_
  iterate 2 refine S.one (J3 f2 f7 @cap_ok) ?_
  have q3q := J3 f2 f7 @cap_ok
  (refine S.g rfl rfl fun Y Z => ?_; simp only [zz, simprocAttr, -Int.reduceNatCast', -Int.reduceToNat, q3q]; (first | (refine ACalls.to hdel ?_; rintro _ _ ⟨rfl, rfl⟩) | (refine ACalls.to hdel ?_; rintro _ _ ⟨kr, rfl, rfl⟩)) <;> (refine Z _ _ ?_; clear Z Y))
  all_goals iterate 2 refine S.one q3q ?_
  all_goals (refine S.nil ?_; simp only [ze, simprocAttr, q3q]; apply_assumption)
  refine AW.ret ?_
  all_goals simp only [zs, simprocAttr]
  rw [hR]
  exact ⟨.gl kr, rfl, .inr ⟨kr, rfl, rfl, rfl⟩, (fun q hq => hok q (List.mem_filter.1 hq).1), Nat.le_trans (List.length_filter_le _ _) hlen⟩
theorem putP_ge (l : List (List Bd)) (p : List Bd) : l.length ≤ (putP l p).length := by
 have := idxP_le l p l.length
 unfold putP
 split
 ·exact Nat.le_refl _
 ·simp; omega
theorem puts_ge (l : List (List Bd)) : ∀ a : List (List Bd), a.length ≤ (l.foldl putP a).length := by
 induction l with
 | nil => intro a; exact Nat.le_refl _
 | cons x l ih => intro a; exact Nat.le_trans (putP_ge a x) (ih _)
theorem rowR_fold (two : Bool) (p : List Bd) : ∀ (b : List (List Bd)) (out : List (List Bd)), rowR two p out b = (rowL two b p).foldl putP out
  | [], out => rfl
  | q :: b, out => by
    rw [rowR, rowL, List.filterMap_cons]
    cases hl : late two p q
    · rw [if_neg Bool.false_ne_true, if_neg Bool.false_ne_true]
      cases hm : mg p q with
      | none => exact rowR_fold two p b out
      | some m => exact rowR_fold two p b (putP out m)
    · rw [if_pos rfl, if_pos rfl]; exact rowR_fold two p b out
theorem joinR_fold (two : Bool) (b : List (List Bd)) : ∀ (a out : List (List Bd)), joinR two b out a = (pairsL two a b).foldl putP out ∨ (4096 < (joinR two b out a).length ∧ 4096 < ((pairsL two a b).foldl putP out).length)
  | [], out => .inl rfl
  | p :: a, out => by
    have e : pairsL two (p :: a) b = rowL two b p ++ pairsL two a b := by rw [pairsL, List.flatMap_cons]; rfl
    rw [joinR, rowR_fold, e, List.foldl_append]
    split
    · rename_i h
      exact .inr ⟨h, Nat.lt_of_lt_of_le h (puts_ge _ _)⟩
    · exact joinR_fold two b a _
theorem leafGo_fold (n : Nd) : ∀ (evs : List Ev) (out : List (List Bd)), leafGo n out evs = (leafL n evs).foldl putP out
  | [], out => rfl
  | e :: r, out => by
    rw [leafGo, leafGo_fold n r, leafL, leafL, List.filter_cons]
    cases termB n e <;> rfl
theorem rowL_from {evs : List Ev} {two : Bool} {b : List (List Bd)} {p : List Bd} (hb : ∀ q ∈ b, From evs q) (hp : From evs p) : ∀ m ∈ rowL two b p, From evs m := by
 intro m hm
 obtain ⟨q, hq, h⟩ := List.mem_filterMap.1 hm
 split at h
 ·cases h
 ·obtain ⟨_, _, _, _, h5⟩ := ofB_mrg h []
  intro b hb'
  rcases List.mem_append.1 (h5.subset hb') with h | h
  ·exact hp b h
  ·exact hb q hq b h
theorem pairsL_from {evs : List Ev} {two : Bool} {a b : List (List Bd)} (ha : ∀ q ∈ a, From evs q) (hb : ∀ q ∈ b, From evs q) : ∀ m ∈ pairsL two a b, From evs m := by
 intro m hm
 obtain ⟨p, hp, h⟩ := List.mem_flatMap.1 hm
 exact rowL_from hb (ha p hp) m h
theorem leafL_from (n : Nd) (evs : List Ev) : ∀ p ∈ leafL n evs, From evs p := by
 intro p hp
 obtain ⟨e, he, rfl⟩ := List.mem_map.1 hp
 intro b hb
 rw [List.mem_singleton.1 hb]; exact (List.mem_filter.1 he).1
theorem norm_from {evs : List Ev} (hd : Dist evs) {l : List (List Bd)} (h : ∀ p ∈ l, From evs p) : ∀ p ∈ norm l, From evs p := fun p hp => h p ((norm_mem (from_apt hd) h p).1 hp)
structure Good (evs : List Ev) (l : List (List Bd)) : Prop where
  of : ∀ p ∈ l, From evs p
  srt : SrtL l
theorem Good.norm {evs : List Ev} (hd : Dist evs) {l : List (List Bd)} (h : ∀ p ∈ l, From evs p) : Good evs (norm l) := ⟨norm_from hd h, norm_srt l⟩
theorem step_from {evs : List Ev} {kind : Int} {a l : List (List Bd)} (ha : ∀ p ∈ a, From evs p) (hl : ∀ p ∈ l, From evs p) : ∀ p ∈ stepL kind a l, From evs p := by
 unfold stepL
 split
 ·intro p hp; exact (List.mem_append.1 hp).elim (ha p) (hl p)
 ·exact pairsL_from ha hl
theorem stepR_norm {evs : List Ev} (hd : Dist evs) {kind : Int} {a l : List (List Bd)} (ha : Good evs a) (hl : Good evs l) :
  stepR kind (some a) l = norm (stepL kind a l) ∨ (4096 < (stepR kind (some a) l).length ∧ 4096 < (norm (stepL kind a l)).length) := by
 have hS := from_apt hd
 rw [stepR, stepL]
 split
 ·left
  rw [putsP_add hS l ha.of hl.of ha.srt, adds_norm hS ha.of hl.of ha.srt]
 ·have e : (pairsL (decide (kind = 2)) a l).foldl putP [] = norm (pairsL (decide (kind = 2)) a l) := putsP_add hS _ (fun _ h => by cases h) (pairsL_from ha.of hl.of) srt_nil
  have := joinR_fold (decide (kind = 2)) l a []
  rw [e] at this
  exact this
theorem refGo_den {evs : List Ev} (hd : Dist evs) {kind : Int} : ∀ (r : List (Option (List (List Bd)))) (acc : Option (List (List Bd))), (∀ a, acc = some a → Good evs a) → (∀ k ∈ r, ∀ a, k = some a → Good evs a) → refGo kind acc r = denGo kind acc r ∧ ∀ l, denGo kind acc r = some l → Good evs l
  | [], acc, ha, _ => by
    have e : ∀ a, refGo kind a [] = some (a.getD []) ∧ denGo kind a [] = some (a.getD []) := fun a => by cases a <;> exact ⟨rfl, rfl⟩
    rw [(e acc).1, (e acc).2]
    refine ⟨rfl, fun l h => ?_⟩
    injection h with h
    subst h
    cases acc with
    | none => exact ⟨(fun _ h => by cases h), srt_nil⟩
    | some a => exact ha a rfl
  | none :: r, acc, _, _ => by cases acc <;> exact ⟨rfl, fun l h => by cases h⟩
  | some k :: r, none, ha, hr => by
    have hk := hr (some k) List.mem_cons_self k rfl
    have e1 : refGo kind none (some k :: r) = if 4096 < k.length then none else refGo kind (some k) r := rfl
    have e2 : denGo kind none (some k :: r) = (capL k).bind fun l => denGo kind (some l) r := rfl
    rw [e1, e2, capL]
    split
    · exact ⟨rfl, fun l h => by cases h⟩
    · exact refGo_den hd r (some k) (fun a h => by cases h; exact hk) fun x hx => hr x (List.mem_cons_of_mem _ hx)
  | some k :: r, some a, ha, hr => by
    have hk := hr (some k) List.mem_cons_self k rfl
    have hga := ha a rfl
    have e1 : refGo kind (some a) (some k :: r) = if 4096 < (stepR kind (some a) k).length then none else refGo kind (some (stepR kind (some a) k)) r := rfl
    have e2 : denGo kind (some a) (some k :: r) = (capL (norm (stepL kind a k))).bind fun l => denGo kind (some l) r := rfl
    rw [e1, e2, capL]
    rcases stepR_norm hd (kind := kind) hga hk with h | ⟨h1, h2⟩
    · rw [h]
      split
      · exact ⟨rfl, fun l h => by cases h⟩
      · exact refGo_den hd r _ (fun a h => by cases h; exact Good.norm hd (step_from hga.of hk.of)) fun x hx => hr x (List.mem_cons_of_mem _ hx)
    · rw [if_pos h1, if_pos h2]
      exact ⟨rfl, fun l h => by cases h⟩
theorem Nd.ref_den {evs : List Ev} (hd : Dist evs) : ∀ n : Nd, n.ref evs = n.den evs ∧ ∀ l, n.den evs = some l → Good evs l := Nd.ind fun n ih => by
 rw [Nd.ref_eq, Nd.den_eq]
 split
 ·have e : leafGo n [] evs = norm (leafL n evs) := by
   rw [leafGo_fold]
   exact putsP_add (from_apt hd) _ (fun _ h => by cases h) (leafL_from n evs) srt_nil
  rw [e]
  exact ⟨rfl, fun l h => by cases h; exact Good.norm hd (leafL_from n evs)⟩
 ·have hm : n.kids.map (Nd.ref evs) = n.kids.map (Nd.den evs) := List.map_congr_left fun x hx => (ih x hx).1
  rw [hm]
  refine refGo_den hd _ none (fun a h => by cases h) fun k hk a ha => ?_
  obtain ⟨x, hx, rfl⟩ := List.mem_map.1 hk
  exact (ih x hx).2 a ha
structure PartOf (evs : List Ev) (vs : List ByteArray) (p : List Bd) : Prop where
  err : partErr p = 0
  ne : p ≠ []
  vars : ∀ b ∈ p, b.var ∈ vs
  of : From evs p
theorem PartOf.sub {evs : List Ev} {vs ws : List ByteArray} {p : List Bd} (h : PartOf evs vs p) (hs : ∀ v ∈ vs, v ∈ ws) : PartOf evs ws p := ⟨h.err, h.ne, fun b hb => hs _ (h.vars b hb), h.of⟩
theorem mg_part {evs : List Ev} {vs ws us : List ByteArray} {p q m : List Bd} (hp : PartOf evs vs p) (hq : PartOf evs ws q) (hv : ∀ v ∈ vs, v ∈ us) (hw : ∀ v ∈ ws, v ∈ us) (hm : mg p q = some m) : PartOf evs us m := by
 obtain ⟨_, h1, _, _, h5⟩ := ofB_mrg hm []
 refine ⟨h1, fun e => ?_, fun b hb => ?_, fun b hb => ?_⟩
 ·rw [e] at h5
  exact hp.ne (List.append_eq_nil_iff.1 (List.nil_perm.1 h5)).1
 ·exact (List.mem_append.1 (h5.subset hb)).elim (fun h => hv _ (hp.vars b h)) fun h => hw _ (hq.vars b h)
 ·exact (List.mem_append.1 (h5.subset hb)).elim (hp.of b) (hq.of b)
theorem norm_ge (l : List (List Bd)) : ∀ a : List (List Bd), a.length ≤ (l.foldl addP a).length := by
  induction l with
  | nil => intro a; exact Nat.le_refl _
  | cons x l ih =>
    intro a
    refine Nat.le_trans ?_ (ih (addP a x))
    unfold addP
    split
    · exact Nat.le_refl _
    · rw [insL'_at]; simp; omega
theorem norm_app_ge (a l : List (List Bd)) : (norm a).length ≤ (norm (a ++ l)).length := by
 rw [norm, norm, List.foldl_append]; exact norm_ge l _
theorem norm_part {evs : List Ev} (hd : Dist evs) {vs : List ByteArray} {l : List (List Bd)} (h : ∀ p ∈ l, PartOf evs vs p) : ∀ p ∈ norm l, PartOf evs vs p := fun p hp => h p ((norm_mem (from_apt hd) (fun y hy => (h y hy).of) p).1 hp)
theorem capL_some {l m : List (List Bd)} (h : capL l = some m) : m = l ∧ l.length ≤ 4096 := by
 unfold capL at h
 split at h
 ·cases h
 ·injection h with h; exact ⟨h.symm, by omega⟩
theorem or_same {evs : List Ev} (hd : Dist evs) : ∀ (r : List (Option (List (List Bd)))) (a : List (List Bd)), Good evs a → a.length ≤ 4096 → (∀ k ∈ r, ∀ l, k = some l → Good evs l) →
    denGo 4 (some a) r = (allO r).bind fun l => capL (norm (a ++ l))
  | [], a, ha, hl, _ => by
    show some a = capL (norm (a ++ []))
    rw [List.append_nil, norm_id (from_apt hd) ha.of ha.srt, capL, if_neg (by omega)]
  | none :: r, a, _, _, _ => rfl
  | some l :: r, a, ha, hl, hr => by
    have hk := hr (some l) List.mem_cons_self l rfl
    have e : denGo 4 (some a) (some l :: r) = (capL (norm (a ++ l))).bind fun m => denGo 4 (some m) r := rfl
    have hf : ∀ p ∈ a ++ l, From evs p := fun p hp => (List.mem_append.1 hp).elim (ha.of p) (hk.of p)
    have e2 : allO (some l :: r) = (allO r).map (l ++ ·) := rfl
    rw [e, e2, capL]
    split
    · rename_i h
      cases hA : allO r with
      | none => rfl
      | some m =>
        show none = capL (norm (a ++ (l ++ m)))
        have := norm_app_ge (a ++ l) m
        rw [List.append_assoc] at this
        rw [capL, if_pos (by omega)]
    · rename_i h
      rw [Option.bind_some, or_same hd r _ (Good.norm hd hf) (by omega) fun k hk => hr k (List.mem_cons_of_mem _ hk)]
      cases hA : allO r with
      | none => rfl
      | some m =>
        show capL (norm (norm (a ++ l) ++ m)) = capL (norm (a ++ (l ++ m)))
        congr 1
        have hm : ∀ p ∈ m, From evs p := by
          have hall : ∀ (r : List (Option (List (List Bd)))) (m : List (List Bd)), (∀ k ∈ r, ∀ l, k = some l → Good evs l) → allO r = some m → ∀ p ∈ m, From evs p := by
            intro r
            induction r with
            | nil => intro m _ h; cases h; intro p hp; cases hp
            | cons k r ih =>
              intro m hr h
              cases k with
              | none => cases h
              | some l =>
                cases hA : allO r with
                | none => rw [show allO (some l :: r) = (allO r).map (l ++ ·) from rfl, hA] at h; cases h
                | some m' =>
                  rw [show allO (some l :: r) = (allO r).map (l ++ ·) from rfl, hA] at h
                  cases h
                  intro p hp
                  rcases List.mem_append.1 hp with hp | hp
                  · exact (hr _ List.mem_cons_self l rfl).of p hp
                  · exact ih m' (fun k hk => hr k (List.mem_cons_of_mem _ hk)) hA p hp
          exact hall r m (fun k hk => hr k (List.mem_cons_of_mem _ hk)) hA
        refine norm_ext (from_apt hd) (fun p hp => (List.mem_append.1 hp).elim (norm_from hd hf p) (hm p)) (fun p hp => (List.mem_append.1 hp).elim (ha.of p) fun h => (List.mem_append.1 h).elim (hk.of p) (hm p)) fun p => ?_
        rw [List.mem_append, norm_mem (from_apt hd) hf, List.mem_append, List.mem_append, List.mem_append, or_assoc]
theorem orP_den {evs : List Ev} (hd : Dist evs) (r : List (Option (List (List Bd)))) (hr : ∀ k ∈ r, ∀ l, k = some l → Good evs l) : orP r = denGo 4 none r := by
  match r, hr with
  | [], _ => rfl
  | none :: r, _ => rfl
  | some l :: r, hr =>
    have hk := hr (some l) List.mem_cons_self l rfl
    have e : denGo 4 none (some l :: r) = (capL l).bind fun m => denGo 4 (some m) r := rfl
    have e2 : orP (some l :: r) = ((allO r).map (l ++ ·)).bind fun m => capL (norm m) := rfl
    rw [e, e2, capL]
    split
    · rename_i h
      cases allO r with
      | none => rfl
      | some m =>
        show capL (norm (l ++ m)) = none
        have := norm_app_ge l m
        rw [norm_id (from_apt hd) hk.of hk.srt] at this
        rw [capL, if_pos (by omega)]
    · rename_i h
      rw [Option.bind_some, or_same hd r l hk (by omega) fun k hk => hr k (List.mem_cons_of_mem _ hk)]
      cases allO r <;> rfl
end Go.Abs.M
