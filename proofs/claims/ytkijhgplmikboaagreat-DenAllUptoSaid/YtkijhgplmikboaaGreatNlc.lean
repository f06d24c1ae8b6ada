import Derived.Test.YtkijhgplmikboaaGreatNlb
import Derived.Lib.Strings
import Derived.Lib.Slices
import Derived.Lib.Walk
import Derived.Lib.Bytealg
set_option linter.all false
set_option maxHeartbeats 4000000
namespace Go.Abs.M
open Go Go.Abs Go.Proofs
variable [Mode]
set_option maxRecDepth 20000
structure Bd where
  var : ByteArray
  ev : Ev
def encBd (b : Bd) : List V := [.c (.string b.var), .c (.int .i64 b.ev.src), .c (.int .i64 b.ev.seq), .c (.int .i64 b.ev.time), .c (.string b.ev.type), .sl (b.ev.attrs.map encAttr)]
def named (n : Nat) (b : Bd) : Bool := isName b.var || decide (b.var.size = 0 ∧ n = 1)
def partFrom (n : Nat) : Option ByteArray → List (Int × Int) → List Bd → Int
  | _, _, [] => 0
  | p, sn, b :: l => if named n b = false ∨ p.any (leS b.var ·) = true ∨ (b.ev.src, b.ev.seq) ∈ sn then 100 else if evErr b.ev ≠ 0 then evErr b.ev else partFrom n (some b.var) (sn ++ [(b.ev.src, b.ev.seq)]) l
def partErr (l : List Bd) : Int := if 12 < l.length then 100 else partFrom l.length none [] l
structure okB (b : Bd) : Prop where
  var : b.var.size < 4611686018427387904
  ev : okE b.ev
def okP (l : List Bd) : Prop := ∀ b ∈ l, okB b
def ent (p : Int × Int) : V := .tup [.c (.agg ⟨[.int .i64 p.1, .int .i64 p.2]⟩), .c (.bool true)]
theorem entOk_seen (l : List (Int × Int)) : entOk (fitsK [.int .i64, .int .i64]) (l.map ent) = true := by
 induction l with
 | nil => rfl
 | cons p l ih => simp only [List.map_cons, ent, entOk, ih]; rfl
theorem entV_seen (l : List (Int × Int)) (a b : Int) (i : Nat) :
    ((a, b) ∉ l ∧ entV (l.map ent) (.agg ⟨[.int .i64 a, .int .i64 b]⟩) i = none) ∨ ((a, b) ∈ l ∧ ∃ j, entV (l.map ent) (.agg ⟨[.int .i64 a, .int .i64 b]⟩) i = some (j, .c (.bool true))) := by
  induction l generalizing i with
  | nil => exact .inl ⟨by simp, rfl⟩
  | cons p l ih =>
    simp only [List.map_cons, ent, entV, sameK, cellsEq, cellEq, Bool.and_true]
    by_cases h : a = p.1 ∧ b = p.2
    · refine .inr ⟨by simp [Prod.ext_iff, h], i, ?_⟩
      simp [h.1, h.2]
    · have hb : (a == p.1 && b == p.2) = false := by
        cases h1 : (a == p.1 && b == p.2)
        · rfl
        · exact absurd (by simpa using h1) h
      rw [if_neg (by rw [hb]; simp)]
      have hne : (a, b) ≠ p := fun e => h (by rw [← e]; exact ⟨rfl, rfl⟩)
      rcases ih (i + 1) with ⟨h1, h2⟩ | ⟨h1, h2⟩
      · exact .inl ⟨by simp [h1, hne], h2⟩
      · exact .inr ⟨List.mem_cons_of_mem _ h1, h2⟩
theorem check_part (l : List Bd) (hl : okP l) : PCalls Tryz.prog 47 [.agg [.sl (l.map encBd)]] (fun r => r = .c (.int .i64 (partErr l))) := by
 refine PCalls.intro Tryz.call47 Tryz.func47 rfl Tryz.ntmps47 Tryz.results47 (by simp) ?_
 refine AW.sr trivial ?_
 refine AW.sr trivial ?_
 refine AW.seq_k fun K3 h3 => ?_
 refine AW.sr trivial ?_
 refine AW.cd (decide ((l.length : Int) > 12)) (fun hc => ?_) (fun hc => ?_)
 ·refine AW.sr trivial ?_
  refine AW.ret ?_
  simp only [zs, simprocAttr]
  have : 12 < l.length := by have := of_decide_eq_true hc; omega
  simp [partErr, this]
 ·refine AW.skip ?_
  simp only [zs, simprocAttr]
  all_goals apply_assumption
  have hlen : l.length ≤ 12 := by have := of_decide_eq_false hc; omega
  refine AW.seq_k fun K6 h6 => ?_
  refine AW.reg0 ?_
  (refine S.g rfl rfl fun Y Z => ?_; simp only [zz, simprocAttr]; intro g hg0 <;> (refine Z _ _ ?_; clear Z Y))
  all_goals refine S.one trivial ?_
  all_goals (refine S.nil ?_; simp only [ze, simprocAttr]; apply_assumption)
  refine AW.seq_k fun K7 h7 => ?_
  all_goals refine AW.sr trivial ?_
  refine AW.block ?_   -- 0
  refine AW.loop (fun m s σ => ∃ i sn, m + i = l.length ∧ σ = Hp.empty.setObj g (some [.tup (sn.map ent)]) ∧ s.t 1 = .lp 1 0 ∧ s.l 1 = some [.sl (l.map encBd)] ∧ s.t 3 = .c (.int .i64 l.length) ∧ s.t 4 = .c (.map (some g)) ∧
   s.t 16 = .sl (l.map encBd) ∧ s.t 17 = .c (.int .i64 l.length) ∧ s.t 18 = .c (.int .i64 (i : Nat)) ∧
   partFrom l.length none [] l = partFrom l.length (if i = 0 then none else (l[i-1]?).map (·.var)) sn (l.drop i)) l.length ?_ ?_
  ·refine ⟨0, [], by simp, ?_⟩
   simp only [zs, simprocAttr]
   simp
  rintro m s σ ⟨i, sn, hm, rfl, e1, l1, e3, e4, e16, e17, e18, hp⟩
  all_goals refine AW.sr (J2 e17 e18) ?_
  refine AW.seq_k fun K10 h10 => ?_
  refine AW.cd (decide (i < l.length)) (fun hc => ?_) (fun hc => ?_)
  ·refine AW.skip ?_
   simp only [zs, simprocAttr]
   all_goals apply_assumption
   have hi : i < l.length := by simpa using hc
   have hg := getD_map (f := encBd) hi
   have hd : l.drop i = l[i] :: l.drop (i + 1) := List.drop_eq_getElem_cons hi
   have hmem := hl _ (List.getElem_mem hi)
   generalize ha : l[i] = a at hg hd hmem
   have hn1 := hmem.var
   have hn2 := hmem.ev
   refine AW.seq_k fun K11 h11 => ?_
   refine AW.block ?_   -- 1
   refine AW.sr (J6 e16 e18 hi hg @encBd.eq_1 e1) ?_
   refine AW.seq_j (fun s' σ' => σ' = Hp.empty.setObj g (some [.tup (sn.map ent)]) ∧ s'.t 1 = .lp 1 0 ∧ s'.l 1 = some [.sl (l.map encBd)] ∧ s'.t 3 = .c (.int .i64 l.length) ∧ s'.t 4 = .c (.map (some g)) ∧
    s'.t 16 = .sl (l.map encBd) ∧ s'.t 17 = .c (.int .i64 l.length) ∧ s'.t 18 = .c (.int .i64 i) ∧ s'.t 6 = .lp 6 0 ∧ s'.l 6 = some (encBd a) ∧ s'.t 5 = .c (.int .i64 i) ∧ s'.t 7 = .c (.bool (named l.length a))) ?_ ?_
   ·skip
    refine AW.reg0 ?_
    iterate 2 refine S.one (J7 e1 e3 l1 e4 e16 e17 e18) ?_
    have q1q := J7 e1 e3 l1 e4 e16 e17 e18
    (refine S.cb q1q (name_spec _ (by assumption)) fun b a25 => ?_; cases b <;> (try exact nope a25))
    all_goals iterate 3 refine S.one q1q ?_
    all_goals (first | (refine S.sp q1q fun b a29 => ?_; cases b <;> (try exact nope a29)) | refine S.one trivial ?_)
    all_goals iterate 6 refine S.one q1q ?_
    all_goals refine S.nil ?_
    all_goals simp only [ze, simprocAttr, q1q]
    all_goals refine ⟨rfl, ?_⟩
    clear hp hd hmem hl
    all_goals (try simp only [bl] at *)
    all_goals (try simp only [V.c.injEq, Value.bool.injEq, Value.int.injEq, true_and, named, a25])
    all_goals exact shut
    all_goals simp_all
   rintro s1 σ1 ⟨rfl, f1, k1, f3, f4, f16, f17, f18, f6, k6, f5, f7⟩
   rw [encBd] at k6
   have hsn := entV_seen sn a.ev.src a.ev.seq 0
   have key : ∀ (q : Bool), q = decide (named l.length a = false ∨ (if i = 0 then none else (l[i-1]?).map (·.var)).any (leS a.var ·) = true ∨ (a.ev.src, a.ev.seq) ∈ sn) → q = q := fun _ _ => rfl
   refine AW.seq_j (fun s' σ' => σ' = Hp.empty.setObj g (some [.tup (sn.map ent)]) ∧ s'.t 1 = .lp 1 0 ∧ s'.l 1 = some [.sl (l.map encBd)] ∧ s'.t 3 = .c (.int .i64 l.length) ∧ s'.t 4 = .c (.map (some g)) ∧
    s'.t 16 = .sl (l.map encBd) ∧ s'.t 17 = .c (.int .i64 l.length) ∧ s'.t 18 = .c (.int .i64 i) ∧ s'.t 6 = .lp 6 0 ∧ s'.l 6 = some (encBd a) ∧
    named l.length a = true ∧ (if i = 0 then none else (l[i-1]?).map (·.var)).any (leS a.var ·) = false ∧ (a.ev.src, a.ev.seq) ∉ sn) ?_ ?_
   ·refine AW.seq_j (fun s' σ' => σ' = Hp.empty.setObj g (some [.tup (sn.map ent)]) ∧ s'.t 1 = .lp 1 0 ∧ s'.l 1 = some [.sl (l.map encBd)] ∧ s'.t 3 = .c (.int .i64 l.length) ∧ s'.t 4 = .c (.map (some g)) ∧
     s'.t 16 = .sl (l.map encBd) ∧ s'.t 17 = .c (.int .i64 l.length) ∧ s'.t 18 = .c (.int .i64 i) ∧ s'.t 6 = .lp 6 0 ∧ s'.l 6 = some (encBd a) ∧
     s'.t 59 = .c (.bool (decide (named l.length a = false ∨ (if i = 0 then none else (l[i-1]?).map (·.var)).any (leS a.var ·) = true ∨ (a.ev.src, a.ev.seq) ∈ sn)))) ?_ ?_
    ·clear hp hd hl hmem key
     generalize hnm : named l.length a = nm at f7 ⊢
     rcases hsn with ⟨hs1, hs2⟩ | ⟨hs1, jj, hs2⟩
     ·by_cases hi0 : i = 0
      ·have hpb : (if i = 0 then none else (l[i-1]?).map (·.var)).any (leS a.var ·) = false := by simp [hi0]
       rw [hpb]
       cases nm
       all_goals refine AW.dv { sd := fun d => d == 1 || d == 6 } [(0,0),(1,0),(2,0),(3,0),(4,0),(5,0),(6,0),(8,0),(10,0),(11,0),(7,1),(9,1),(12,0),(13,0),(14,1),(15,0),(16,0),(17,0),(18,0),(19,0),(20,0),(21,0),(22,1),(23,2),(24,0)] ?_
       all_goals have q2q := J12 f1 k1 f3 f4 f16 f17 f18 f6 k6 f5 f7 hs2
       all_goals iterate 4 refine D.one q2q ?_
       all_goals (first | (refine D.sp q2q fun b a39 => ?_; cases b <;> (try exact nope a39)) | refine D.one trivial ?_)
       all_goals iterate 10 refine D.one q2q ?_
       all_goals (first | (refine D.sp q2q fun b a50 => ?_; cases b <;> (try exact nope a50)) | refine D.one trivial ?_)
       all_goals iterate 7 refine D.one q2q ?_
       all_goals have q3q := J12 f1 k1 f3 f4 f16 f17 f18 f6 k6 f5 f7 hs2
       all_goals (first | (refine D.y rfl trivial rfl rfl rfl rfl fun Y Z => ?_; simp only [zn, simprocAttr, q3q]; refine ⟨_, _, _, Tryz.underlying70, key45, rfl, entOk_seen _, ?_⟩; (try simp only [tt, ofC, Option.some.injEq, exists_eq_left', zz, simprocAttr, f1, k1, f3, f4, f16, f17, f18, f6, k6, f5, f7, hs2]) <;> (refine Z _ _ ?_; clear Z Y)) | refine D.one trivial ?_)
       all_goals refine D.one q3q ?_
       all_goals refine D.nil ?_
       all_goals simp only [ze, simprocAttr, q3q]
       all_goals (first | refine ⟨rfl, ?_⟩ | skip)
       all_goals simp [hs1]
      ·have hi1 : i - 1 < l.length := by omega
       have hpb : (if i = 0 then none else (l[i-1]?).map (·.var)).any (leS a.var ·) = leS a.var l[i-1].var := by simp [hi0, hi1]
       rw [hpb]
       have hg1 := getD_map (f := encBd) hi1
       have hw : IntKind.i64.wrap ((i : Int) - 1) = ((i - 1 : Nat) : Int) := by rw [wrap_small _ (by omega) (by omega)]; omega
       cases nm
       all_goals refine AW.dv { sd := fun d => d == 1 || d == 6 } [(0,0),(1,0),(2,0),(3,0),(4,0),(5,0),(6,0),(8,0),(10,0),(11,0),(7,1),(9,1),(12,0),(13,0),(14,1),(15,0),(16,0),(17,0),(18,0),(19,0),(20,0),(21,0),(22,1),(23,2),(24,0)] ?_
       all_goals have q4q := J12 f1 k1 f3 f4 f16 f17 f18 f6 k6 f5 f7 (J5 hs2 hi1 hg1 @encBd.eq_1 hw)
       all_goals iterate 4 refine D.one q4q ?_
       all_goals (first | (refine D.sp q4q fun b a39 => ?_; cases b <;> (try exact nope a39)) | refine D.one trivial ?_)
       all_goals iterate 10 refine D.one q4q ?_
       all_goals (first | (refine D.sp q4q fun b a50 => ?_; cases b <;> (try exact nope a50)) | refine D.one trivial ?_)
       all_goals iterate 7 refine D.one q4q ?_
       all_goals have q5q := J12 f1 k1 f3 f4 f16 f17 f18 f6 k6 f5 f7 (J5 hs2 hi1 hg1 @encBd.eq_1 hw)
       all_goals (first | (refine D.y rfl trivial rfl rfl rfl rfl fun Y Z => ?_; simp only [zn, simprocAttr, q5q]; refine ⟨_, _, _, Tryz.underlying70, key45, rfl, entOk_seen _, ?_⟩; (try simp only [tt, ofC, Option.some.injEq, exists_eq_left', zz, simprocAttr, f1, k1, f3, f4, f16, f17, f18, f6, k6, f5, f7, hs2, hi1, hg1, encBd, hw]) <;> (refine Z _ _ ?_; clear Z Y)) | refine D.one trivial ?_)
       all_goals refine D.one q5q ?_
       all_goals refine D.nil ?_
       all_goals simp only [ze, simprocAttr, q5q]
       all_goals (first | refine ⟨rfl, ?_⟩ | skip)
       all_goals (try unfold leS)
       all_goals (first | rw [a50] | skip)
       all_goals simp [hs1]
     ·by_cases hi0 : i = 0
      ·have hpb : (if i = 0 then none else (l[i-1]?).map (·.var)).any (leS a.var ·) = false := by simp [hi0]
       rw [hpb]
       cases nm
       all_goals refine AW.dv { sd := fun d => d == 1 || d == 6 } [(0,0),(1,0),(2,0),(3,0),(4,0),(5,0),(6,0),(8,0),(10,0),(11,0),(7,1),(9,1),(12,0),(13,0),(14,1),(15,0),(16,0),(17,0),(18,0),(19,0),(20,0),(21,0),(22,1),(23,2),(24,0)] ?_
       all_goals have q6q := J12 f1 k1 f3 f4 f16 f17 f18 f6 k6 f5 f7 hs2
       all_goals iterate 4 refine D.one q6q ?_
       all_goals (first | (refine D.sp q6q fun b a39 => ?_; cases b <;> (try exact nope a39)) | refine D.one trivial ?_)
       all_goals iterate 10 refine D.one q6q ?_
       all_goals (first | (refine D.sp q6q fun b a50 => ?_; cases b <;> (try exact nope a50)) | refine D.one trivial ?_)
       all_goals iterate 7 refine D.one q6q ?_
       all_goals have q7q := J12 f1 k1 f3 f4 f16 f17 f18 f6 k6 f5 f7 hs2
       all_goals (first | (refine D.y rfl trivial rfl rfl rfl rfl fun Y Z => ?_; simp only [zn, simprocAttr, q7q]; refine ⟨_, _, _, Tryz.underlying70, key45, rfl, entOk_seen _, ?_⟩; (try simp only [tt, ofC, Option.some.injEq, exists_eq_left', zz, simprocAttr, f1, k1, f3, f4, f16, f17, f18, f6, k6, f5, f7, hs2]) <;> (refine Z _ _ ?_; clear Z Y)) | refine D.one trivial ?_)
       all_goals refine D.one q7q ?_
       all_goals refine D.nil ?_
       all_goals simp only [ze, simprocAttr, q7q]
       all_goals (first | refine ⟨rfl, ?_⟩ | skip)
       all_goals simp [hs1]
      ·have hi1 : i - 1 < l.length := by omega
       have hpb : (if i = 0 then none else (l[i-1]?).map (·.var)).any (leS a.var ·) = leS a.var l[i-1].var := by simp [hi0, hi1]
       rw [hpb]
       have hg1 := getD_map (f := encBd) hi1
       have hw : IntKind.i64.wrap ((i : Int) - 1) = ((i - 1 : Nat) : Int) := by rw [wrap_small _ (by omega) (by omega)]; omega
       cases nm
       all_goals refine AW.dv { sd := fun d => d == 1 || d == 6 } [(0,0),(1,0),(2,0),(3,0),(4,0),(5,0),(6,0),(8,0),(10,0),(11,0),(7,1),(9,1),(12,0),(13,0),(14,1),(15,0),(16,0),(17,0),(18,0),(19,0),(20,0),(21,0),(22,1),(23,2),(24,0)] ?_
       all_goals have q8q := J12 f1 k1 f3 f4 f16 f17 f18 f6 k6 f5 f7 (J5 hs2 hi1 hg1 @encBd.eq_1 hw)
       all_goals iterate 4 refine D.one q8q ?_
       all_goals (first | (refine D.sp q8q fun b a39 => ?_; cases b <;> (try exact nope a39)) | refine D.one trivial ?_)
       all_goals iterate 10 refine D.one q8q ?_
       all_goals (first | (refine D.sp q8q fun b a50 => ?_; cases b <;> (try exact nope a50)) | refine D.one trivial ?_)
       all_goals iterate 7 refine D.one q8q ?_
       all_goals have q9q := J12 f1 k1 f3 f4 f16 f17 f18 f6 k6 f5 f7 (J5 hs2 hi1 hg1 @encBd.eq_1 hw)
       all_goals (first | (refine D.y rfl trivial rfl rfl rfl rfl fun Y Z => ?_; simp only [zn, simprocAttr, q9q]; refine ⟨_, _, _, Tryz.underlying70, key45, rfl, entOk_seen _, ?_⟩; (try simp only [tt, ofC, Option.some.injEq, exists_eq_left', zz, simprocAttr, f1, k1, f3, f4, f16, f17, f18, f6, k6, f5, f7, hs2, hi1, hg1, encBd, hw]) <;> (refine Z _ _ ?_; clear Z Y)) | refine D.one trivial ?_)
       all_goals refine D.one q9q ?_
       all_goals refine D.nil ?_
       all_goals simp only [ze, simprocAttr, q9q]
       all_goals (first | refine ⟨rfl, ?_⟩ | skip)
       all_goals (try unfold leS)
       all_goals (first | rw [a50] | skip)
       all_goals simp [hs1]
    rintro s2 σ2 ⟨rfl, g1, j1, g3, g4, g16, g17, g18, g6, j6, g59⟩
    refine AW.cond (b := _) g59 (fun hc => ?_) (fun hc => ?_)
    ·refine AW.sr trivial ?_
     refine AW.bare (AW.ret ?_)
     simp only [zs, simprocAttr]
     have h8 : ¬ 12 < l.length := by omega
     have hx := of_decide_eq_true hc
     simp only [partErr, if_neg h8, hp, hd, partFrom, if_pos hx, and_self]
    ·refine AW.skip ?_
     have hx := of_decide_eq_false hc
     simp only [zs, simprocAttr]
     refine ⟨g1, j1, g3, g4, g16, g17, g18, g6, j6, ?_, ?_, ?_⟩
     ·exact (Bool.not_eq_false _).mp fun e => hx (.inl e)
     ·exact (Bool.not_eq_true _).mp fun e => hx (.inr (.inl e))
     ·exact fun e => hx (.inr (.inr e))
   rintro s2 σ2 ⟨rfl, g1, j1, g3, g4, g16, g17, g18, g6, j6, hx1, hx2, hx3⟩
   rw [encBd] at j6
   have hs2 : entV (sn.map ent) (.agg ⟨[.int .i64 a.ev.src, .int .i64 a.ev.seq]⟩) 0 = none := by
    rcases hsn with ⟨_, h⟩ | ⟨h, _⟩
    ·exact h
    ·exact absurd h hx3
   refine AW.seq_k fun K14 h14 => ?_
   refine AW.reg0 ?_
   iterate 4 refine S.one (J10 g1 j1 g3 g4 g16 g17 g18 g6 j6 hs2) ?_
   have q10q := J10 g1 j1 g3 g4 g16 g17 g18 g6 j6 hs2
   (refine S.g rfl rfl fun Y Z => ?_; simp only [zn, simprocAttr, q10q]; refine ⟨_, _, _, Tryz.underlying70, key45, rfl, entOk_seen _, ?_⟩; (try simp only [tt, ofC, Option.some.injEq, exists_eq_left', zz, simprocAttr, g1, j1, g3, g4, g16, g17, g18, g6, j6, hs2]) <;> (refine Z _ _ ?_; clear Z Y))
   all_goals (refine S.nil ?_; simp only [ze, simprocAttr, q10q]; apply_assumption)
   refine AW.seq_k fun K15 h15 => ?_
   all_goals refine AW.reg0 ?_
   all_goals iterate 2 refine S.one (J9 g1 j1 g3 g4 g16 g17 g18 g6 j6) ?_
   all_goals have q11q := J9 g1 j1 g3 g4 g16 g17 g18 g6 j6
   all_goals (refine S.g rfl rfl fun Y Z => ?_; simp only [zz, simprocAttr, q11q]; refine ((check_ev _ (by assumption)).eqto ?_) <;> (refine Z _ _ ?_; clear Z Y))
   all_goals refine S.one q11q ?_
   all_goals (refine S.nil ?_; simp only [ze, simprocAttr, q11q]; apply_assumption)
   all_goals refine AW.sr trivial ?_
   refine AW.cd (evErr a.ev != 0) (fun hc => ?_) (fun hc => ?_)
   ·refine AW.sr trivial ?_
    refine AW.bare (AW.ret ?_)
    simp only [zs, simprocAttr]
    have hy : evErr a.ev ≠ 0 := by simpa using hc
    have h8 : ¬ 12 < l.length := by omega
    have hx : ¬ (named l.length a = false ∨ (if i = 0 then none else (l[i-1]?).map (·.var)).any (leS a.var ·) = true ∨ (a.ev.src, a.ev.seq) ∈ sn) := by rw [hx1, hx2]; simp [hx3]
    simp only [partErr, if_neg h8, hp, hd, partFrom, if_neg hx, if_pos hy, and_self]
   ·refine AW.skip ?_
    simp only [zs, simprocAttr]
    all_goals apply_assumption
    have hy : evErr a.ev = 0 := by simpa using hc
    have hw : IntKind.i64.wrap ((i : Int) + 1) = ((i + 1 : Nat) : Int) := by rw [wrap_small _ (by omega) (by omega)]; rfl
    have hx : ¬ (named l.length a = false ∨ (if i = 0 then none else (l[i-1]?).map (·.var)).any (leS a.var ·) = true ∨ (a.ev.src, a.ev.seq) ∈ sn) := by rw [hx1, hx2]; simp [hx3]
    refine AW.reg0 (S.rn (J2 g18 hw) ?_)
    simp only [ze, simprocAttr, g18, hw]
    refine ⟨m - 1, by omega, i + 1, sn ++ [(a.ev.src, a.ev.seq)], by omega, by simp [ent], g1, j1, g3, g4, g16, g17, rfl, ?_⟩
    rw [hp, hd, partFrom, if_neg hx, if_neg (fun e => e hy)]
    simp [ha, hi]
  ·refine AW.exit ?_
   simp only [zs, simprocAttr]
   -- EXIT 0
   all_goals apply_assumption
   refine AW.sr trivial ?_
   refine AW.bare (AW.ret ?_)
   simp only [zs, simprocAttr]
   have hi : l.length ≤ i := by simpa using hc
   have h8 : ¬ 12 < l.length := by omega
   simp [partErr, h8, hp, List.drop_of_length_le hi, partFrom]
theorem len_attr (l : List Attr) : ∀ (e : List V), e ∈ l.map encAttr → e.length = 4 := fun e he => by
 obtain ⟨a, _, rfl⟩ := List.mem_map.1 he; rfl
theorem len_bd (l : List Bd) : ∀ (e : List V), e ∈ l.map encBd → e.length = 6 := fun e he => by
 obtain ⟨a, _, rfl⟩ := List.mem_map.1 he; rfl
theorem clone_attrs (l : List Attr) (hl : l.length * 48 ≤ 140737488355328) : PCalls Tryz.prog 126 [.sl (l.map encAttr)] (fun r => r = .sl (l.map encAttr)) := by
 refine PCalls.intro Tryz.call126 Tryz.func126 rfl Tryz.ntmps126 Tryz.results126 (by simp) ?_
 refine AW.sr trivial ?_
 refine AW.seq_j (fun s' σ' => σ' = Hp.empty ∧ s'.t 0 = .sl (l.map encAttr)) ?_ ?_
 ·refine AW.seq_j (fun s' σ' => σ' = Hp.empty ∧ s'.t 0 = .sl (l.map encAttr) ∧ ∃ b, s'.t 4 = .c (.bool b) ∧ (b = true → l = [])) ?_ ?_
  ·skip
   refine AW.reg0 ?_
   refine S.one trivial ?_
   (refine S.g rfl rfl fun Y Z => ?_; simp only [zz, simprocAttr, tt]; refine ⟨fun hne => ?_, fun hz b => ?_⟩ <;> (refine Z _ _ ?_; clear Z Y))
   all_goals refine S.nil ?_
   all_goals simp only [ze, simprocAttr]
   ·exact ⟨_, rfl, fun h => by cases h⟩
   ·exact ⟨_, rfl, fun _ => hz⟩
  rintro s σ ⟨rfl, e0, b, e4, hb⟩
  refine AW.cond (b := b) e4 (fun hc => ?_) (fun hc => AW.skip ?_)
  ·refine AW.sr trivial ?_
   refine AW.ret ?_
   simp only [zs, simprocAttr]
   rw [hb hc]; rfl
  ·simp only [zs, simprocAttr]
   exact e0
 rintro s σ ⟨rfl, e0⟩
 refine AW.seq_k fun K3 h3 => ?_
 all_goals refine AW.region (T := { own := fun d => d == 5 }) (fun _ _ h => by cases h) rfl ?_
 all_goals (refine S.g rfl rfl fun Y Z => ?_; simp only [zb, simprocAttr, tt, e0]; intro k1 hk1 <;> (refine Z _ _ ?_; clear Z Y))
 all_goals refine S.one e0 ?_
 all_goals (refine S.g rfl rfl fun Y Z => ?_; simp only [zz, simprocAttr, tt, e0]; refine ⟨len_attr l, by unfold maxLen; omega, by unfold reach; omega, fun k2 hk2 => ?_⟩ <;> (refine Z _ _ ?_; clear Z Y))
 all_goals refine S.one e0 ?_
 all_goals (refine S.nil ?_; simp only [ze, simprocAttr, e0]; apply_assumption)
 refine AW.freeze (k := k2) (T := (119, 4)) (es := l.map encAttr) (by simp only [Hp.setGr_gr, if_true]) (AW.bare (AW.ret ?_))
 all_goals simp only [zs, simprocAttr, fzV, fz1, St.fz_t, St.fz_l]
theorem clone_ev (e : Ev) (hl : e.attrs.length * 48 ≤ 140737488355328) : PCalls Tryz.prog 98 [.agg (encEv e)] (fun r => r = .agg (encEv e)) := by
 refine PCalls.intro Tryz.call98 Tryz.func98 rfl Tryz.ntmps98 Tryz.results98 (by simp) ?_
 refine AW.sr @encEv.eq_1 ?_
 refine AW.seq_k fun K2 h2 => ?_
 refine AW.reg0 ?_
 iterate 2 refine S.one trivial ?_
 refine S.cl trivial (clone_attrs _ (by assumption)) ?_
 iterate 2 refine S.one trivial ?_
 (refine S.nil ?_; simp only [ze, simprocAttr]; apply_assumption)
 refine AW.sr trivial ?_
 refine AW.ret ?_
 simp only [zs, simprocAttr, qLoad, tt, cut, List.drop_zero, List.take_succ_cons, List.take_zero]
 simp only [List.map, wk1, encEv]
end Go.Abs.M
namespace Go.Abs.M
open Go Go.Abs
variable [Mode]
structure Opd where
  var : ByteArray
  attr : ByteArray
  v : Val
structure Cnd where
  l : Opd
  rel : Int
  r : Opd
inductive Nd where
  | mk (kind : Int) (var type : ByteArray) (tests : List Cnd) (kids : List Nd)
instance : Inhabited Nd := ⟨.mk 0 ⟨#[]⟩ ⟨#[]⟩ [] []⟩
def Nd.kind : Nd → Int | .mk k _ _ _ _ => k
def Nd.var : Nd → ByteArray | .mk _ v _ _ _ => v
def Nd.type : Nd → ByteArray | .mk _ _ t _ _ => t
def Nd.tests : Nd → List Cnd | .mk _ _ _ ts _ => ts
def Nd.kids : Nd → List Nd | .mk _ _ _ _ ks => ks
mutual
def Nd.para {α : Type} (f : Nd → List α → α) : Nd → α
  | .mk k v t ts ks => f (.mk k v t ts ks) (Nd.paraL f ks)
def Nd.paraL {α : Type} (f : Nd → List α → α) : List Nd → List α
  | [] => []
  | x :: xs => Nd.para f x :: Nd.paraL f xs
end
theorem Nd.paraL_map {α : Type} (f : Nd → List α → α) : ∀ ks : List Nd, Nd.paraL f ks = ks.map (Nd.para f)
 | [] => by rw [Nd.paraL]; rfl
 | x :: xs => by rw [Nd.paraL, Nd.paraL_map f xs]; rfl
theorem Nd.para_eq {α : Type} (f : Nd → List α → α) (n : Nd) : n.para f = f n (n.kids.map (Nd.para f)) := by
 cases n
 rw [Nd.para, Nd.paraL_map]; rfl
theorem Nd.ind {P : Nd → Prop} (h : ∀ n : Nd, (∀ x ∈ n.kids, P x) → P n) (n : Nd) : P n :=
 Nd.rec (motive_1 := P) (motive_2 := fun ks => ∀ x ∈ ks, P x) (fun k v t ts ks ih => h (.mk k v t ts ks) ih) (fun x hx => by cases hx) (fun x xs h1 h2 y hy => by
  rcases List.mem_cons.1 hy with rfl | hy
  ·exact h1
  ·exact h2 y hy) n
def encO (o : Opd) : List V := [.c (.string o.var), .c (.string o.attr), .c (.int .i64 o.v.kind), .c (.int .i64 o.v.n), .c (.string o.v.s)]
def encC (c : Cnd) : List V := encO c.l ++ [.c (.int .i64 c.rel)] ++ encO c.r
def encNd (n : Nd) : List V := n.para fun n l => [.c (.int .i64 n.kind), .c (.string n.var), .c (.string n.type), .sl (n.tests.map encC), .sl l]
theorem encNd_eq (n : Nd) : encNd n = [.c (.int .i64 n.kind), .c (.string n.var), .c (.string n.type), .sl (n.tests.map encC), .sl (n.kids.map encNd)] := Nd.para_eq _ n
theorem encNd_len (n : Nd) : (encNd n).length = 5 := by rw [encNd_eq]; rfl
theorem encNd_take (n : Nd) : (encNd n).take 5 = encNd n := List.take_of_length_le (by rw [encNd_len]; exact Nat.le_refl _)
theorem encNd_drop (n : Nd) : (encNd n).drop 5 = [] := List.drop_of_length_le (by rw [encNd_len]; exact Nat.le_refl _)
theorem encNd_wk (n : Nd) : (encNd n).map wk1 = encNd n := by rw [encNd_eq]; rfl
theorem nd : (∀ n : Nd, (encNd n).length = 5) ∧ (∀ n : Nd, (encNd n).take 5 = encNd n) ∧ (∀ n : Nd, (encNd n).drop 5 = []) ∧ (∀ n : Nd, (encNd n).map wk1 = encNd n) := ⟨encNd_len, encNd_take, encNd_drop, encNd_wk⟩
theorem encC_len (c : Cnd) : (encC c).length = 11 := rfl
def Nd.size (n : Nd) : Nat := n.para fun _ l => 1 + l.sum
def Nd.terms (n : Nd) : Nat := n.para fun n l => if n.kids.length = 0 then 1 else l.sum
def Nd.deep (n : Nd) : Nat := n.para fun _ l => l.foldl max 0 + 1
def altS (l : List Nat) : Nat := l.foldl (fun s a => min (s + a) 65) 0
def altP (l : List Nat) : Nat := l.foldl (fun s a => min (s * a) 65) 1
def Nd.alts (n : Nd) : Nat := n.para fun n l => if n.kids.length = 0 then 1 else if n.kind = 4 then altS l else altP l
theorem Nd.size_eq (n : Nd) : n.size = 1 + (n.kids.map Nd.size).sum := Nd.para_eq _ n
theorem Nd.terms_eq (n : Nd) : n.terms = if n.kids.length = 0 then 1 else (n.kids.map Nd.terms).sum := Nd.para_eq _ n
theorem Nd.deep_eq (n : Nd) : n.deep = (n.kids.map Nd.deep).foldl max 0 + 1 := Nd.para_eq _ n
theorem Nd.alts_eq (n : Nd) : n.alts = if n.kids.length = 0 then 1 else if n.kind = 4 then altS (n.kids.map Nd.alts) else altP (n.kids.map Nd.alts) := Nd.para_eq _ n
theorem sum_mem {l : List Nat} {x : Nat} (h : x ∈ l) : x ≤ l.sum := by
  induction l with
  | nil => cases h
  | cons y l ih =>
    rcases List.mem_cons.1 h with rfl | h
    · simp
    · have := ih h; simp; omega
theorem Nd.size_kid {n x : Nd} (h : x ∈ n.kids) : x.size < n.size := by
 have := sum_mem (List.mem_map_of_mem (f := Nd.size) h)
 rw [Nd.size_eq n]; omega
theorem Nd.len_size (n : Nd) : n.kids.length < n.size := by
 rw [Nd.size_eq]
 have : ∀ ks : List Nd, ks.length ≤ (ks.map Nd.size).sum := fun ks => by
  induction ks with
  | nil => simp
  | cons x xs ih => have := Nd.size_eq x; simp; omega
 have := this n.kids; omega
theorem sum_le {f g : Nd → Nat} : ∀ {ks : List Nd}, (∀ x ∈ ks, f x ≤ g x) → (ks.map f).sum ≤ (ks.map g).sum
  | [], _ => Nat.le_refl _
  | x :: xs, h => by
    have h1 := h x List.mem_cons_self
    have h2 := sum_le (f := f) (g := g) (ks := xs) fun y hy => h y (List.mem_cons_of_mem _ hy)
    simp only [List.map_cons, List.sum_cons]; omega
theorem Nd.terms_size : ∀ n : Nd, n.terms ≤ n.size := Nd.ind fun n ih => by
 rw [Nd.terms_eq, Nd.size_eq]
 have := sum_le ih
 split <;> omega
theorem foldmax_le {l : List Nat} {b : Nat} (h : ∀ x ∈ l, x ≤ b) : ∀ a, a ≤ b → l.foldl max a ≤ b := by
 induction l with
 | nil => intro a ha; exact ha
 | cons x l ih => intro a ha; exact ih (fun y hy => h y (List.mem_cons_of_mem _ hy)) _ (Nat.max_le.2 ⟨ha, h x List.mem_cons_self⟩)
theorem Nd.deep_size : ∀ n : Nd, n.deep ≤ n.size := Nd.ind fun n ih => by
 rw [Nd.deep_eq]
 have hl : ∀ x ∈ n.kids.map Nd.deep, x ≤ n.size - 1 := fun x hx => by
  obtain ⟨y, hy, rfl⟩ := List.mem_map.1 hx
  have := ih y hy; have := Nd.size_kid hy; omega
 have := foldmax_le hl 0 (Nat.zero_le _)
 have := Nd.size_eq n
 omega
theorem altS_le (l : List Nat) : altS l ≤ 65 := by
 have : ∀ (l : List Nat) a, a ≤ 65 → l.foldl (fun s a => min (s + a) 65) a ≤ 65 := fun l => by
  induction l with
  | nil => intro a h; exact h
  | cons x l ih => intro a _; exact ih _ (Nat.min_le_right _ _)
 exact this l 0 (by omega)
theorem altP_le (l : List Nat) : altP l ≤ 65 := by
 have : ∀ (l : List Nat) a, a ≤ 65 → l.foldl (fun s a => min (s * a) 65) a ≤ 65 := fun l => by
  induction l with
  | nil => intro a h; exact h
  | cons x l ih => intro a _; exact ih _ (Nat.min_le_right _ _)
 exact this l 1 (by omega)
theorem Nd.alts_le (n : Nd) : n.alts ≤ 65 := by
 rw [Nd.alts_eq]
 split
 ·omega
 ·split
  ·exact altS_le _
  ·exact altP_le _
def Nd.small (n : Nd) : Prop := n.size ≤ 1048576
theorem Nd.small.kid {n x : Nd} (h : n.small) (hx : x ∈ n.kids) : x.small := Nat.le_trans (Nat.le_of_lt (Nd.size_kid hx)) h
theorem Nd.small.len {n : Nd} (h : n.small) : n.kids.length < 1048576 := Nat.lt_of_lt_of_le (Nd.len_size n) h
end Go.Abs.M
namespace Go.Abs.M
open Go Go.Abs Go.Proofs
variable [Mode]
set_option maxRecDepth 20000
theorem wsm {a : Nat} (h : a < 9223372036854775808) : IntKind.i64.wrap (a : Int) = (a : Int) := wrap_small _ (by omega) (by omega)
theorem wadd {a b : Nat} (h : a + b < 9223372036854775808) : IntKind.i64.wrap ((a : Int) + b) = ((a + b : Nat) : Int) := by rw [wrap_small _ (by omega) (by omega)]; rfl
theorem wadd1 {a : Nat} (h : a + 1 < 9223372036854775808) : IntKind.i64.wrap ((a : Int) + 1) = ((a + 1 : Nat) : Int) := wadd h
theorem maxI (a b : Nat) : (if a < b then (b : Int) else (a : Int)) = ((max a b : Nat) : Int) := by
 by_cases h : a < b
 ·rw [if_pos h, Nat.max_eq_right (by omega)]
 ·rw [if_neg h, Nat.max_eq_left (by omega)]
theorem fold_step {α β : Type} {f : α → β → α} {a : α} {l : List β} {i : Nat} {x : β} (h : l[i]? = some x) : (l.take (i + 1)).foldl f a = f ((l.take i).foldl f a) x := by
 rw [List.take_add_one, h, List.foldl_append]; rfl
theorem sum_step {l : List Nat} {i x : Nat} (h : l[i]? = some x) : (l.take (i + 1)).sum = (l.take i).sum + x := by
 rw [List.take_add_one, h, List.sum_append]; simp
theorem sum_take (l : List Nat) (i : Nat) : (l.take i).sum ≤ l.sum := by
 have := List.take_append_drop i l
 have h : (l.take i ++ l.drop i).sum = l.sum := by rw [this]
 rw [List.sum_append] at h; omega
theorem kid_get {n : Nd} {i : Nat} (h : i < n.kids.length) : ∃ x, n.kids[i]? = some x ∧ x ∈ n.kids ∧ (n.kids.map encNd).getD i [] = encNd x := ⟨n.kids[i], List.getElem?_eq_getElem h, List.getElem_mem h, getD_map h⟩
theorem deep_spec : ∀ n : Nd, n.small → PCalls Tryz.prog 59 [.agg (encNd n)] (fun v => v = .c (.int .i64 (n.deep : Nat))) := Nd.ind fun n ih hn => by
 have hl := hn.len
 have hds := n.deep_size
 have hn' : n.size ≤ 1048576 := hn
 rw [encNd_eq]
 refine PCalls.intro Tryz.call59 Tryz.func59 rfl Tryz.ntmps59 Tryz.results59 (by simp) ?_
 refine AW.sr trivial ?_
 refine AW.sr trivial ?_
 refine AW.seq_k fun K3 h3 => ?_
 refine AW.sr @List.length_map.{0,0} ?_
 refine AW.block ?_   -- 0
 refine AW.loop (fun m s σ => σ = Hp.empty ∧ ∃ i : Nat, m + i = n.kids.length ∧ s.t 7 = .sl (n.kids.map encNd) ∧ s.t 8 = .c (.int .i64 (n.kids.length : Nat)) ∧ s.t 9 = .c (.int .i64 (i : Nat)) ∧ s.t 3 = .c (.int .i64 (((n.kids.take i).map Nd.deep).foldl max 0 : Nat))) n.kids.length ?_ ?_
 ·refine ⟨rfl, 0, by simp, ?_⟩
  simp only [zs, simprocAttr]
  simp
 rintro m s σ ⟨rfl, i, hm, e7, e8, e9, e3⟩
 refine AW.sr (J2 e9 e8) ?_
 refine AW.seq_k fun K6 h6 => ?_
 refine AW.cd (decide (i < n.kids.length)) (fun hc => ?_) (fun hc => ?_)
 ·have hi := of_decide_eq_true hc
  obtain ⟨x, hx, hxm, hg⟩ := kid_get hi
  have hw := wadd1 (a := i) (by omega)
  refine AW.skip ?_
  simp only [zs, simprocAttr]
  all_goals apply_assumption
  refine AW.seq_k fun K7 h7 => ?_
  refine AW.block ?_   -- 1
  refine AW.sr (J6 e7 e9 hi hg @nd @List.length_map.{0,0}) ?_
  refine AW.reg0 ?_
  iterate 2 refine S.one (J3 e3 @nd @maxI) ?_
  have q1q := J3 e3 @nd @maxI
  refine S.cl q1q (ih x hxm (hn.kid hxm)) ?_
  iterate 2 refine S.one q1q ?_
  (refine S.nil ?_; simp only [ze, simprocAttr, q1q]; apply_assumption)
  have q2q := J4 e7 e8 e9 hw
  refine AW.reg0 (S.rn q2q ?_)
  simp only [ze, simprocAttr, q2q]
  refine ⟨m - 1, by omega, i + 1, by omega, ?_⟩
  all_goals ((try and_intros) <;> first | rfl | assumption | (rw [List.map_take, List.map_take, fold_step (x := x.deep) (by rw [List.getElem?_map, hx]; rfl)]))
 ·have hi := of_decide_eq_false hc
  refine AW.exit ?_
  simp only [zs, simprocAttr]
  all_goals apply_assumption
  have hfd := n.deep_eq
  have hw := wadd1 (a := (n.kids.map Nd.deep).foldl max 0) (by omega)
  rw [List.take_of_length_le (by omega)] at e3
  refine AW.sr (J2 e3 hw) ?_
  refine AW.ret ?_
  simp only [zs, simprocAttr]
  rw [hfd]
theorem len0 (n : Nd) : ((n.kids.length : Int) == 0) = decide (n.kids.length = 0) := by
 by_cases h : n.kids.length = 0
 ·simp [h]
 ·have : ((n.kids.length : Int) == 0) = false := by simpa using h
  rw [this]; simp [h]
theorem minI (a : Nat) : (if (65 : Int) < (a : Int) then (65 : Int) else (a : Int)) = ((min a 65 : Nat) : Int) := by
 by_cases h : a ≤ 65
 ·rw [if_neg (by omega), Nat.min_eq_left h]
 ·rw [if_pos (by omega), Nat.min_eq_right (by omega)]; rfl
theorem terms_spec : ∀ n : Nd, n.small → PCalls Tryz.prog 60 [.agg (encNd n)] (fun v => v = .c (.int .i64 (n.terms : Nat))) := Nd.ind fun n ih hn => by
 have hl := hn.len
 have hds := n.terms_size
 have hn' : n.size ≤ 1048576 := hn
 have hte := n.terms_eq
 rw [encNd_eq]
 refine PCalls.intro Tryz.call60 Tryz.func60 rfl Tryz.ntmps60 Tryz.results60 (by simp) ?_
 refine AW.sr trivial ?_
 refine AW.seq_k fun K2 h2 => ?_
 refine AW.sr (J2 @List.length_map.{0,0} @len0) ?_
 refine AW.cd (decide (n.kids.length = 0)) (fun hc => ?_) (fun hc => ?_)
 ·have hk0 := of_decide_eq_true hc
  refine AW.sr trivial ?_
  refine AW.ret ?_
  simp only [zs, simprocAttr]
  rw [hte, if_pos hk0]; rfl
 have hk0 := of_decide_eq_false hc
 rw [if_neg hk0] at hte
 refine AW.skip ?_
 simp only [zs, simprocAttr]
 all_goals apply_assumption
 refine AW.sr trivial ?_
 refine AW.seq_k fun K6 h6 => ?_
 refine AW.sr @List.length_map.{0,0} ?_
 refine AW.block ?_   -- 0
 refine AW.loop (fun m s σ => σ = Hp.empty ∧ ∃ i : Nat, m + i = n.kids.length ∧ s.t 11 = .sl (n.kids.map encNd) ∧ s.t 12 = .c (.int .i64 (n.kids.length : Nat)) ∧ s.t 13 = .c (.int .i64 (i : Nat)) ∧ s.t 3 = .c (.int .i64 (((n.kids.map Nd.terms).take i).sum : Nat))) n.kids.length ?_ ?_
 ·refine ⟨rfl, 0, by simp, ?_⟩
  simp only [zs, simprocAttr]
  all_goals ((try and_intros) <;> first | rfl | assumption | (simp))
 rintro m s σ ⟨rfl, i, hm, e7, e8, e9, e3⟩
 refine AW.sr (J2 e9 e8) ?_
 refine AW.seq_k fun K9 h9 => ?_
 refine AW.cd (decide (i < n.kids.length)) (fun hc => ?_) (fun hc => ?_)
 ·have hi := of_decide_eq_true hc
  obtain ⟨x, hx, hxm, hg⟩ := kid_get hi
  have hw := wadd1 (a := i) (by omega)
  have hst := sum_step (l := n.kids.map Nd.terms) (i := i) (x := x.terms) (by rw [List.getElem?_map, hx]; rfl)
  have hsl : ((n.kids.map Nd.terms).take (i + 1)).sum ≤ (n.kids.map Nd.terms).sum := sum_take _ _
  have hw2 := wadd (a := ((n.kids.map Nd.terms).take i).sum) (b := x.terms) (by omega)
  refine AW.skip ?_
  simp only [zs, simprocAttr]
  all_goals apply_assumption
  refine AW.seq_k fun K10 h10 => ?_
  refine AW.block ?_   -- 1
  refine AW.sr (J6 e7 e9 hi hg @nd @List.length_map.{0,0}) ?_
  refine AW.reg0 ?_
  iterate 2 refine S.one (J3 e3 @nd hw2) ?_
  refine S.cl (J3 e3 @nd hw2) (ih x hxm (hn.kid hxm)) ?_
  iterate 2 refine S.one (J3 e3 @nd hw2) ?_
  (refine S.nil ?_; simp only [ze, simprocAttr, e3, nd, hw2]; apply_assumption)
  have q1q := J4 e7 e8 e9 hw
  refine AW.reg0 (S.rn q1q ?_)
  simp only [ze, simprocAttr, q1q]
  refine ⟨m - 1, by omega, i + 1, by omega, ?_⟩
  all_goals ((try and_intros) <;> first | rfl | assumption | (rw [hst]))
 ·have hi := of_decide_eq_false hc
  refine AW.exit ?_
  simp only [zs, simprocAttr]
  all_goals apply_assumption
  rw [List.take_of_length_le (by rw [List.length_map]; omega)] at e3
  refine AW.sr e3 ?_
  refine AW.ret ?_
  simp only [zs, simprocAttr]
  rw [hte]
theorem alts_spec : ∀ n : Nd, n.kids.length < 1048576 ∧ n.small → PCalls Tryz.prog 62 [.agg (encNd n)] (fun v => v = .c (.int .i64 (n.alts : Nat))) := fun n h => h.2 |> fun hs => by
 clear h
 revert hs
 revert n
 refine Nd.ind fun n ih0 hn => ?_
 have ih : ∀ x ∈ n.kids, PCalls Tryz.prog 62 [.agg (encNd x)] (fun v => v = .c (.int .i64 (x.alts : Nat))) := fun x hx => ih0 x hx (hn.kid hx)
 have hl := hn.len
 have hte := n.alts_eq
 have hke : (n.kind == 4) = decide (n.kind = 4) := rfl
 rw [encNd_eq]
 refine PCalls.intro Tryz.call62 Tryz.func62 rfl Tryz.ntmps62 Tryz.results62 (by simp) ?_
 refine AW.sr trivial ?_
 refine AW.seq_k fun K2 h2 => ?_
 refine AW.sr (J2 @List.length_map.{0,0} @len0) ?_
 refine AW.cd (decide (n.kids.length = 0)) (fun hc => ?_) (fun hc => ?_)
 ·have hk0 := of_decide_eq_true hc
  refine AW.sr trivial ?_
  refine AW.ret ?_
  simp only [zs, simprocAttr]
  rw [hte, if_pos hk0]; rfl
 have hk0 := of_decide_eq_false hc
 rw [if_neg hk0] at hte
 refine AW.skip ?_
 simp only [zs, simprocAttr]
 all_goals apply_assumption
 refine AW.sr trivial ?_
 refine AW.seq_k fun K6 h6 => ?_
 refine AW.sr @List.length_map.{0,0} ?_
 refine AW.block ?_   -- 0
 refine AW.loop (fun m s σ => σ = Hp.empty ∧ ∃ i : Nat, m + i = n.kids.length ∧ s.t 13 = .sl (n.kids.map encNd) ∧ s.t 14 = .c (.int .i64 (n.kids.length : Nat)) ∧ s.t 15 = .c (.int .i64 (i : Nat)) ∧ s.t 3 = .c (.int .i64 (altS ((n.kids.map Nd.alts).take i) : Nat)) ∧ s.t 4 = .c (.int .i64 (altP ((n.kids.map Nd.alts).take i) : Nat)) ∧
  s.t 1 = .lp 1 0 ∧ s.l 1 = some [.c (.int .i64 n.kind), .c (.string n.var), .c (.string n.type), .sl (n.tests.map encC), .sl (n.kids.map encNd)]) n.kids.length ?_ ?_
 ·refine ⟨rfl, 0, by simp, ?_⟩
  simp only [zs, simprocAttr]
  all_goals ((try and_intros) <;> first | rfl | assumption | (simp [altS, altP]))
 rintro m s σ ⟨rfl, i, hm, e7, e8, e9, e3, e4, e1, l1⟩
 refine AW.sr (J2 e9 e8) ?_
 refine AW.seq_k fun K9 h9 => ?_
 refine AW.cd (decide (i < n.kids.length)) (fun hc => ?_) (fun hc => ?_)
 ·have hi := of_decide_eq_true hc
  obtain ⟨x, hx, hxm, hg⟩ := kid_get hi
  have hw := wadd1 (a := i) (by omega)
  have hgx : (n.kids.map Nd.alts)[i]? = some x.alts := by rw [List.getElem?_map, hx]; rfl
  have hs1 : altS ((n.kids.map Nd.alts).take (i + 1)) = min (altS ((n.kids.map Nd.alts).take i) + x.alts) 65 := fold_step hgx
  have hs2 : altP ((n.kids.map Nd.alts).take (i + 1)) = min (altP ((n.kids.map Nd.alts).take i) * x.alts) 65 := fold_step hgx
  have ha := x.alts_le
  have b1 := altS_le ((n.kids.map Nd.alts).take i)
  have b2 := altP_le ((n.kids.map Nd.alts).take i)
  generalize altS ((n.kids.map Nd.alts).take i) = S1 at e3 hs1 b1
  generalize altP ((n.kids.map Nd.alts).take i) = P1 at e4 hs2 b2
  have hw2 := wadd (a := S1) (b := x.alts) (by omega)
  have hm65 : P1 * x.alts ≤ 65 * 65 := Nat.mul_le_mul b2 ha
  have hw3 : IntKind.i64.wrap ((P1 : Int) * x.alts) = ((P1 * x.alts : Nat) : Int) := by
   rw [← Int.natCast_mul]; exact wsm (by omega)
  refine AW.skip ?_
  simp only [zs, simprocAttr]
  all_goals apply_assumption
  refine AW.seq_k fun K10 h10 => ?_
  refine AW.block ?_   -- 1
  refine AW.sr (J6 e7 e9 hi hg @nd @List.length_map.{0,0}) ?_
  refine AW.seq_k fun K12 h12 => ?_
  refine AW.reg0 ?_
  refine S.one @nd ?_
  refine S.cl @nd (ih x hxm) ?_
  refine S.one @nd ?_
  (refine S.nil ?_; simp only [ze, simprocAttr, nd]; apply_assumption)
  refine AW.sr (J3 e3 hw2 @minI) ?_
  refine AW.reg0 (S.rn (J3 e4 hw3 @minI) ?_)
  all_goals apply_assumption
  have q1q := J6 e7 e8 e9 hw e1 l1
  refine AW.reg0 (S.rn q1q ?_)
  simp only [ze, simprocAttr, q1q]
  refine ⟨m - 1, by omega, i + 1, by omega, ?_⟩
  all_goals ((try and_intros) <;> first | rfl | assumption | (first | rw [hs1] | rw [hs2]))
 ·have hi := of_decide_eq_false hc
  refine AW.exit ?_
  simp only [zs, simprocAttr]
  all_goals apply_assumption
  rw [List.take_of_length_le (by rw [List.length_map]; omega)] at e3 e4
  refine AW.seq_k fun K14 h14 => ?_
  refine AW.sr (J3 e1 l1 hke) ?_
  refine AW.cd (decide (n.kind = 4)) (fun hc => ?_) (fun hc => ?_)
  ·refine AW.sr e3 ?_
   refine AW.ret ?_
   simp only [zs, simprocAttr]
   rw [hte, if_pos (of_decide_eq_true hc)]
  ·refine AW.skip ?_
   simp only [zs, simprocAttr]
   all_goals apply_assumption
   refine AW.sr e4 ?_
   refine AW.ret ?_
   simp only [zs, simprocAttr]
   rw [hte, if_neg (of_decide_eq_false hc)]
theorem rdeep_spec : ∀ n : Nd, n.small → PCalls Tryz.prog 34 [.agg (encNd n)] (fun v => v = .c (.int .i64 (n.deep : Nat))) := Nd.ind fun n ih hn => by
 have hl := hn.len
 have hds := n.deep_size
 have hn' : n.size ≤ 1048576 := hn
 have hfd := n.deep_eq
 rw [encNd_eq]
 refine PCalls.intro Tryz.call34 Tryz.func34 rfl Tryz.ntmps34 Tryz.results34 (by simp) ?_
 refine AW.sr trivial ?_
 refine AW.sr trivial ?_
 refine AW.seq_k fun K3 h3 => ?_
 refine AW.sr trivial ?_
 refine AW.block ?_   -- 0
 refine AW.loop (fun m s σ => σ = Hp.empty ∧ ∃ i : Nat, m + i = n.kids.length ∧ s.t 4 = .c (.int .i64 (i : Nat)) ∧ s.t 3 = .c (.int .i64 (((n.kids.map Nd.deep).take i).foldl max 0 : Nat)) ∧
  s.t 1 = .lp 1 0 ∧ s.l 1 = some [.c (.int .i64 n.kind), .c (.string n.var), .c (.string n.type), .sl (n.tests.map encC), .sl (n.kids.map encNd)]) n.kids.length ?_ ?_
 ·refine ⟨rfl, 0, by simp, ?_⟩
  simp only [zs, simprocAttr]
  all_goals ((try and_intros) <;> first | rfl | assumption | (simp))
 rintro m s σ ⟨rfl, i, hm, e4, e3, e1, l1⟩
 refine AW.seq_k fun K5 h5 => ?_
 refine AW.sr (J4 e1 l1 e4 @List.length_map.{0,0}) ?_
 refine AW.cd (decide (i < n.kids.length)) (fun hc => ?_) (fun hc => ?_)
 ·have hi := of_decide_eq_true hc
  obtain ⟨x, hx, hxm, hg⟩ := kid_get hi
  have hw := wadd1 (a := i) (by omega)
  have hgx : (n.kids.map Nd.deep)[i]? = some x.deep := by rw [List.getElem?_map, hx]; rfl
  refine AW.skip ?_
  simp only [zs, simprocAttr]
  all_goals apply_assumption
  refine AW.seq_k fun K7 h7 => ?_
  refine AW.block ?_   -- 1
  refine AW.reg0 ?_
  iterate 6 refine S.one (J9 e3 e4 e1 l1 hi hg @nd @List.length_map.{0,0} @maxI) ?_
  have q1q := J9 e3 e4 e1 l1 hi hg @nd @List.length_map.{0,0} @maxI
  refine S.cl q1q (ih x hxm (hn.kid hxm)) ?_
  iterate 2 refine S.one q1q ?_
  (refine S.nil ?_; simp only [ze, simprocAttr, q1q]; apply_assumption)
  have q2q := J4 e4 hw e1 l1
  refine AW.reg0 (S.rn q2q ?_)
  simp only [ze, simprocAttr, q2q]
  refine ⟨m - 1, by omega, i + 1, by omega, ?_⟩
  all_goals ((try and_intros) <;> first | rfl | assumption | (rw [fold_step hgx]))
 ·have hi := of_decide_eq_false hc
  refine AW.exit ?_
  simp only [zs, simprocAttr]
  all_goals apply_assumption
  rw [List.take_of_length_le (by rw [List.length_map]; omega)] at e3
  have hw := wadd1 (a := (n.kids.map Nd.deep).foldl max 0) (by omega)
  refine AW.sr (J2 e3 hw) ?_
  refine AW.ret ?_
  simp only [zs, simprocAttr]
  rw [hfd]
theorem rterms_spec : ∀ n : Nd, n.small → PCalls Tryz.prog 33 [.agg (encNd n)] (fun v => v = .c (.int .i64 (n.terms : Nat))) := Nd.ind fun n ih hn => by
 have hl := hn.len
 have hds := n.terms_size
 have hn' : n.size ≤ 1048576 := hn
 have hte := n.terms_eq
 rw [encNd_eq]
 refine PCalls.intro Tryz.call33 Tryz.func33 rfl Tryz.ntmps33 Tryz.results33 (by simp) ?_
 refine AW.sr trivial ?_
 refine AW.seq_k fun K2 h2 => ?_
 refine AW.sr (J2 @List.length_map.{0,0} @len0) ?_
 refine AW.cd (decide (n.kids.length = 0)) (fun hc => ?_) (fun hc => ?_)
 ·have hk0 := of_decide_eq_true hc
  refine AW.sr trivial ?_
  refine AW.ret ?_
  simp only [zs, simprocAttr]
  rw [hte, if_pos hk0]; rfl
 have hk0 := of_decide_eq_false hc
 rw [if_neg hk0] at hte
 refine AW.skip ?_
 simp only [zs, simprocAttr]
 all_goals apply_assumption
 refine AW.sr trivial ?_
 refine AW.seq_k fun K6 h6 => ?_
 refine AW.sr trivial ?_
 refine AW.block ?_   -- 0
 refine AW.loop (fun m s σ => σ = Hp.empty ∧ ∃ i : Nat, m + i = n.kids.length ∧ s.t 4 = .c (.int .i64 (i : Nat)) ∧ s.t 3 = .c (.int .i64 (((n.kids.map Nd.terms).take i).sum : Nat)) ∧
  s.t 1 = .lp 1 0 ∧ s.l 1 = some [.c (.int .i64 n.kind), .c (.string n.var), .c (.string n.type), .sl (n.tests.map encC), .sl (n.kids.map encNd)]) n.kids.length ?_ ?_
 ·refine ⟨rfl, 0, by simp, ?_⟩
  simp only [zs, simprocAttr]
  all_goals ((try and_intros) <;> first | rfl | assumption | (simp))
 rintro m s σ ⟨rfl, i, hm, e4, e3, e1, l1⟩
 refine AW.seq_k fun K8 h8 => ?_
 refine AW.sr (J4 e1 l1 e4 @List.length_map.{0,0}) ?_
 refine AW.cd (decide (i < n.kids.length)) (fun hc => ?_) (fun hc => ?_)
 ·have hi := of_decide_eq_true hc
  obtain ⟨x, hx, hxm, hg⟩ := kid_get hi
  have hw := wadd1 (a := i) (by omega)
  have hst := sum_step (l := n.kids.map Nd.terms) (i := i) (x := x.terms) (by rw [List.getElem?_map, hx]; rfl)
  have hsl : ((n.kids.map Nd.terms).take (i + 1)).sum ≤ (n.kids.map Nd.terms).sum := sum_take _ _
  have hw2 := wadd (a := ((n.kids.map Nd.terms).take i).sum) (b := x.terms) (by omega)
  refine AW.skip ?_
  simp only [zs, simprocAttr]
  all_goals apply_assumption
  refine AW.seq_k fun K10 h10 => ?_
  refine AW.block ?_   -- 1
  refine AW.reg0 ?_
  iterate 6 refine S.one (J9 e3 e4 e1 l1 hi hg @nd @List.length_map.{0,0} hw2) ?_
  have q1q := J9 e3 e4 e1 l1 hi hg @nd @List.length_map.{0,0} hw2
  refine S.cl q1q (ih x hxm (hn.kid hxm)) ?_
  iterate 2 refine S.one q1q ?_
  (refine S.nil ?_; simp only [ze, simprocAttr, q1q]; apply_assumption)
  have q2q := J4 e4 hw e1 l1
  refine AW.reg0 (S.rn q2q ?_)
  simp only [ze, simprocAttr, q2q]
  refine ⟨m - 1, by omega, i + 1, by omega, ?_⟩
  all_goals ((try and_intros) <;> first | rfl | assumption | (rw [hst]))
 ·have hi := of_decide_eq_false hc
  refine AW.exit ?_
  simp only [zs, simprocAttr]
  all_goals apply_assumption
  rw [List.take_of_length_le (by rw [List.length_map]; omega)] at e3
  refine AW.sr e3 ?_
  refine AW.ret ?_
  simp only [zs, simprocAttr]
  rw [hte]
theorem ralts_spec : ∀ n : Nd, n.small → PCalls Tryz.prog 72 [.agg (encNd n)] (fun v => v = .c (.int .i64 (n.alts : Nat))) := Nd.ind fun n ih hn => by
 have hl := hn.len
 have hte := n.alts_eq
 have hke : (n.kind == 4) = decide (n.kind = 4) := rfl
 rw [encNd_eq]
 refine PCalls.intro Tryz.call72 Tryz.func72 rfl Tryz.ntmps72 Tryz.results72 (by simp) ?_
 refine AW.sr trivial ?_
 refine AW.seq_k fun K2 h2 => ?_
 refine AW.sr (J2 @List.length_map.{0,0} @len0) ?_
 refine AW.cd (decide (n.kids.length = 0)) (fun hc => ?_) (fun hc => ?_)
 ·have hk0 := of_decide_eq_true hc
  refine AW.sr trivial ?_
  refine AW.ret ?_
  simp only [zs, simprocAttr]
  rw [hte, if_pos hk0]; rfl
 have hk0 := of_decide_eq_false hc
 rw [if_neg hk0] at hte
 refine AW.skip ?_
 simp only [zs, simprocAttr]
 all_goals apply_assumption
 refine AW.sr trivial ?_
 have hfin : ∃ A : List Nat → Nat, n.alts = A (n.kids.map Nd.alts) ∧ A [] = (if n.kind = 4 then 0 else 1) ∧ (∀ l, A l ≤ 65) ∧ ∀ (l : List Nat) (i x : Nat), l[i]? = some x → A (l.take (i + 1)) = if n.kind = 4 then min (A (l.take i) + x) 65 else min (A (l.take i) * x) 65 := by
  by_cases h4 : n.kind = 4
  ·exact ⟨altS, by rw [hte, if_pos h4], by rw [if_pos h4]; rfl, altS_le, fun l i x h => by rw [if_pos h4]; exact fold_step h⟩
  ·exact ⟨altP, by rw [hte, if_neg h4], by rw [if_neg h4]; rfl, altP_le, fun l i x h => by rw [if_neg h4]; exact fold_step h⟩
 obtain ⟨A, hA, hA0, hA65, hAs⟩ := hfin
 refine AW.seq_j (fun s σ => σ = Hp.empty ∧ s.t 3 = .c (.int .i64 (A [] : Nat)) ∧
  s.t 1 = .lp 1 0 ∧ s.l 1 = some [.c (.int .i64 n.kind), .c (.string n.var), .c (.string n.type), .sl (n.tests.map encC), .sl (n.kids.map encNd)]) ?_ ?_
 ·refine AW.sr hke ?_
  refine AW.cd (decide (n.kind = 4)) (fun hc => ?_) (fun hc => ?_)
  ·skip
   refine AW.reg0 (S.rn trivial ?_)
   simp only [ze, simprocAttr]
   all_goals ((try and_intros) <;> first | rfl | assumption | (rw [hA0, if_pos (of_decide_eq_true hc)]; rfl))
  ·refine AW.skip ?_
   simp only [zs, simprocAttr]
   all_goals ((try and_intros) <;> first | rfl | assumption | (rw [hA0, if_neg (of_decide_eq_false hc)]; rfl))
 rintro s σ ⟨rfl, e3, e1, l1⟩
 refine AW.seq_k fun K7 h7 => ?_
 refine AW.sr (J2 e1 l1) ?_
 refine AW.block ?_   -- 0
 refine AW.loop (fun m s σ => σ = Hp.empty ∧ ∃ i : Nat, m + i = n.kids.length ∧ s.t 4 = .c (.int .i64 (i : Nat)) ∧ s.t 3 = .c (.int .i64 (A ((n.kids.map Nd.alts).take i) : Nat)) ∧
  s.t 1 = .lp 1 0 ∧ s.l 1 = some [.c (.int .i64 n.kind), .c (.string n.var), .c (.string n.type), .sl (n.tests.map encC), .sl (n.kids.map encNd)]) n.kids.length ?_ ?_
 ·refine ⟨rfl, 0, by simp, ?_⟩
  simp only [zs, simprocAttr, e1, l1, e3]
  all_goals ((try and_intros) <;> first | rfl | assumption | (simp))
 clear e1 l1 e3
 rintro m s σ ⟨rfl, i, hm, e4, e3, e1, l1⟩
 refine AW.seq_k fun K9 h9 => ?_
 refine AW.sr (J4 e1 l1 e4 @List.length_map.{0,0}) ?_
 refine AW.cd (decide (i < n.kids.length)) (fun hc => ?_) (fun hc => ?_)
 ·have hi := of_decide_eq_true hc
  obtain ⟨x, hx, hxm, hg⟩ := kid_get hi
  have hw := wadd1 (a := i) (by omega)
  have hgx : (n.kids.map Nd.alts)[i]? = some x.alts := by rw [List.getElem?_map, hx]; rfl
  have hst := hAs _ _ _ hgx
  have ha := x.alts_le
  have b1 := hA65 ((n.kids.map Nd.alts).take i)
  generalize A ((n.kids.map Nd.alts).take i) = S1 at e3 hst b1
  have hw2 := wadd (a := S1) (b := x.alts) (by omega)
  have hm65 : S1 * x.alts ≤ 65 * 65 := Nat.mul_le_mul b1 ha
  have hw3 : IntKind.i64.wrap ((S1 : Int) * x.alts) = ((S1 * x.alts : Nat) : Int) := by
   rw [← Int.natCast_mul]; exact wsm (by omega)
  refine AW.skip ?_
  simp only [zs, simprocAttr]
  all_goals apply_assumption
  refine AW.seq_j (fun s σ => σ = Hp.empty ∧ s.t 4 = .c (.int .i64 (i : Nat)) ∧ s.t 3 = .c (.int .i64 (A ((n.kids.map Nd.alts).take (i + 1)) : Nat)) ∧
   s.t 1 = .lp 1 0 ∧ s.l 1 = some [.c (.int .i64 n.kind), .c (.string n.var), .c (.string n.type), .sl (n.tests.map encC), .sl (n.kids.map encNd)]) ?_ ?_
  ·refine AW.block ?_   -- 1
   refine AW.seq_k fun K11 h11 => ?_
   refine AW.reg0 ?_
   iterate 5 refine S.one (J8 e3 e4 e1 l1 hi hg @nd @List.length_map.{0,0}) ?_
   have q1q := J8 e3 e4 e1 l1 hi hg @nd @List.length_map.{0,0}
   refine S.cl q1q (ih x hxm (hn.kid hxm)) ?_
   refine S.one q1q ?_
   (refine S.nil ?_; simp only [ze, simprocAttr, q1q]; apply_assumption)
   refine AW.sr (J3 e1 l1 hke) ?_
   refine AW.cd (decide (n.kind = 4)) (fun hc => ?_) (fun hc => ?_)
   ·skip
    have q2q := J6 e3 e4 e1 l1 hw2 @minI
    refine AW.reg0 (S.rn q2q ?_)
    simp only [ze, simprocAttr, q2q]
    all_goals ((try and_intros) <;> first | rfl | assumption | (rw [hst, if_pos (of_decide_eq_true hc)]))
   ·skip
    have q3q := J6 e3 e4 e1 l1 hw3 @minI
    refine AW.reg0 (S.rn q3q ?_)
    simp only [ze, simprocAttr, q3q]
    all_goals ((try and_intros) <;> first | rfl | assumption | (rw [hst, if_neg (of_decide_eq_false hc)]))
  clear e4 e3 e1 l1
  rintro s σ ⟨rfl, e4, e3, e1, l1⟩
  have q4q := J4 e4 hw e1 l1
  refine AW.reg0 (S.rn q4q ?_)
  simp only [ze, simprocAttr, q4q]
  refine ⟨m - 1, by omega, i + 1, by omega, ?_⟩
  all_goals ((try and_intros) <;> first | rfl | assumption | (exact e3))
 ·have hi := of_decide_eq_false hc
  refine AW.exit ?_
  simp only [zs, simprocAttr]
  all_goals apply_assumption
  rw [List.take_of_length_le (by rw [List.length_map]; omega)] at e3
  refine AW.sr e3 ?_
  refine AW.ret ?_
  simp only [zs, simprocAttr]
  rw [hA]
theorem rtime_spec (n : Int) : PCalls Tryz.prog 75 [.c (.int .i64 n)] (fun r => r = .c (.bool (timeOk n))) := by
 refine PCalls.intro Tryz.call75 Tryz.func75 rfl Tryz.ntmps75 Tryz.results75 (by simp) ?_
 refine AW.sr trivial ?_
 refine AW.seq_j (fun s' σ' => σ' = Hp.empty ∧ s'.t 2 = .c (.bool (timeOk n))) ?_ ?_
 ·skip
  refine AW.reg0 ?_
  refine S.one trivial ?_
  (refine S.sp trivial fun b a4 => ?_; cases b <;> (try exact nope a4))
  all_goals iterate 5 refine S.one trivial ?_
  all_goals refine S.nil ?_
  all_goals simp only [ze, simprocAttr]
  all_goals (try simp only [bl] at *)
  all_goals (try simp only [V.c.injEq, Value.bool.injEq, Value.int.injEq, true_and, timeOk])
  all_goals exact shut
 rintro s σ ⟨rfl, e2⟩
 refine AW.ret ?_
 all_goals simp only [zs, simprocAttr, e2]
theorem letter_spec (c : UInt8) : PCalls Tryz.prog 108 [.c (.int .u8 c.toNat)] (fun r => r = .c (.bool (letter c))) := by
 refine PCalls.intro Tryz.call108 Tryz.func108 rfl Tryz.ntmps108 Tryz.results108 (by simp) ?_
 refine AW.sr trivial ?_
 refine AW.seq_j (fun s' σ' => σ' = Hp.empty ∧ s'.t 2 = .c (.bool (letter c))) ?_ ?_
 ·skip
  refine AW.reg0 ?_
  refine S.one trivial ?_
  (refine S.sp trivial fun b a4 => ?_; cases b <;> (try exact nope a4))
  all_goals iterate 2 refine S.one trivial ?_
  all_goals (first | (refine S.sp trivial fun b a7 => ?_; cases b <;> (try exact nope a7)) | refine S.one trivial ?_)
  all_goals iterate 3 refine S.one trivial ?_
  all_goals (first | (refine S.sp trivial fun b a11 => ?_; cases b <;> (try exact nope a11)) | refine S.one trivial ?_)
  all_goals iterate 2 refine S.one trivial ?_
  all_goals (first | (refine S.sp trivial fun b a14 => ?_; cases b <;> (try exact nope a14)) | refine S.one trivial ?_)
  all_goals iterate 7 refine S.one trivial ?_
  all_goals refine S.nil ?_
  all_goals simp only [ze, simprocAttr]
  all_goals (try simp only [bl] at *)
  all_goals (try simp only [V.c.injEq, Value.bool.injEq, Value.int.injEq, true_and, letter])
  all_goals exact shut
 rintro s σ ⟨rfl, e2⟩
 refine AW.ret ?_
 all_goals simp only [zs, simprocAttr, e2]
theorem rcheck_val (v : Val) : PCalls Tryz.prog 109 [.agg (encVal v)] (fun r => r = .c (.int .i64 (valErr v))) := by
 refine PCalls.intro Tryz.call109 Tryz.func109 rfl Tryz.ntmps109 Tryz.results109 (by simp) ?_
 refine AW.sr @encVal.eq_1 ?_
 refine AW.seq_k fun K2 h2 => ?_
 refine AW.seq_j (fun s' σ' => σ' = Hp.empty ∧ s'.t 26 = .c (.bool (valOk v))) ?_ ?_
 ·skip
  refine AW.reg0 ?_
  iterate 2 refine S.one trivial ?_
  (refine S.sp trivial fun b a5 => ?_; cases b <;> (try exact nope a5))
  all_goals iterate 3 refine S.one trivial ?_
  all_goals (first | (refine S.sp trivial fun b a9 => ?_; cases b <;> (try exact nope a9)) | refine S.one trivial ?_)
  all_goals iterate 4 refine S.one trivial ?_
  all_goals (first | (refine S.sp trivial fun b a14 => ?_; cases b <;> (try exact nope a14)) | refine S.one trivial ?_)
  all_goals iterate 3 refine S.one trivial ?_
  all_goals (first | (refine S.sp trivial fun b a18 => ?_; cases b <;> (try exact nope a18)) | refine S.one trivial ?_)
  all_goals iterate 8 refine S.one trivial ?_
  all_goals refine S.nil ?_
  all_goals simp only [ze, simprocAttr]
  all_goals (try simp only [bl] at *)
  all_goals (try simp only [V.c.injEq, Value.bool.injEq, Value.int.injEq, true_and, valOk])
  all_goals exact shut
 rintro s σ ⟨rfl, e26⟩
 refine AW.cond (b := valOk v) e26 (fun hc => ?_) (fun hc => AW.skip ?_)
 ·refine AW.sr trivial ?_
  refine AW.ret ?_
  simp only [zs, simprocAttr]
  simp [valErr, hc]
 ·simp only [zs, simprocAttr]
  all_goals apply_assumption
  refine AW.sr trivial ?_
  refine AW.ret ?_
  simp only [zs, simprocAttr]
  simp [valErr, hc]
theorem rname_spec (str : ByteArray) (hn : str.size < 4611686018427387904) : PCalls Tryz.prog 76 [.c (.string str)] (fun v => v = .c (.bool (isName str))) := by
 refine PCalls.intro Tryz.call76 Tryz.func76 rfl Tryz.ntmps76 Tryz.results76 (by simp) ?_
 refine AW.sr trivial ?_
 refine AW.seq_k fun K2 h2 => ?_
 refine AW.seq_j (fun s' σ' => σ' = Hp.empty ∧ s'.t 0 = .c (.string str) ∧ s'.t 10 = .c (.bool (decide (str.size = 0 ∨ 32 < str.size)))) ?_ ?_
 ·skip
  refine AW.reg0 ?_
  refine S.one trivial ?_
  (refine S.sp trivial fun b a5 => ?_; cases b <;> (try exact nope a5))
  all_goals iterate 5 refine S.one trivial ?_
  all_goals refine S.nil ?_
  all_goals simp only [ze, simprocAttr]
  all_goals (try simp only [bl] at *)
  all_goals (try simp only [V.c.injEq, Value.bool.injEq, Value.int.injEq, true_and])
  all_goals exact shut
 rintro s σ ⟨rfl, e0, e10⟩
 refine AW.cond (b := _) e10 (fun hc => ?_) (fun hc => ?_)
 ·refine AW.sr trivial ?_
  refine AW.ret ?_
  simp only [zs, simprocAttr]
  have hx := of_decide_eq_true hc
  rcases hx with hx | hx
  ·simp [isName, hx]
  ·have : decide (str.size ≤ 32) = false := by rw [decide_eq_false_iff_not]; omega
   simp [isName, this]
 ·refine AW.skip ?_
  have hx := of_decide_eq_false hc
  have hx0 : ¬ str.size = 0 := fun e => hx (.inl e)
  have hx1 : str.size ≤ 32 := by omega
  simp only [zs, simprocAttr]
  all_goals apply_assumption
  refine AW.seq_k fun K4 h4 => ?_
  refine AW.sr trivial ?_
  refine AW.block ?_   -- 0
  refine AW.loop (fun m s σ => σ = Hp.empty ∧ ∃ i : Nat, m + i = str.size ∧ s.t 0 = .c (.string str) ∧ s.t 3 = .c (.int .i64 i) ∧ nameL 0 str.data.toList = nameL i (str.data.toList.drop i)) str.size ?_ ?_
  ·refine ⟨rfl, 0, by simp, ?_⟩
   simp only [zs, reduceIte, Nat.reduceEqDiff, Nat.reduceLT, Nat.reduceLeDiff, Nat.reduceAdd, reduceCtorEq, Nat.reduceMul]
   exact ⟨e0, by simp, by simp⟩
  rintro m s σ ⟨rfl, i, hm, e0, e3, hp⟩
  refine AW.seq_k fun K6 h6 => ?_
  all_goals refine AW.sr (J2 e0 e3) ?_
  refine AW.cd (decide (i < str.size)) (fun hc => ?_) (fun hc => ?_)
  ·refine AW.skip ?_
   simp only [zs, simprocAttr]
   all_goals apply_assumption
   have hi : i < str.size := by simpa using hc
   have hil : i < str.data.toList.length := by rw [Array.length_toList]; exact hi
   have hgd : str.data.getD i 0 = str.data.toList[i] := by
    have h2 : i < str.data.size := hi
    unfold Array.getD; rw [dif_pos h2]; simp
   generalize hcc : str.data.toList[i] = c at hgd
   have hd : str.data.toList.drop i = c :: str.data.toList.drop (i + 1) := by rw [← hcc]; exact List.drop_eq_getElem_cons hil
   refine AW.seq_k fun K8 h8 => ?_
   refine AW.block ?_   -- 1
   refine AW.seq_j (fun s' σ' => σ' = Hp.empty ∧ s'.t 0 = .c (.string str) ∧ s'.t 3 = .c (.int .i64 i) ∧ s'.t 37 = .c (.bool (!nameC i c))) ?_ ?_
   ·clear hp hd
    refine AW.reg0 ?_
    iterate 3 refine S.one (J4 e0 e3 hi hgd) ?_
    have q1q := J4 e0 e3 hi hgd
    (refine S.cb q1q (letter_spec _) fun b a20 => ?_; cases b <;> (try exact nope a20))
    all_goals iterate 3 refine S.one q1q ?_
    all_goals (first | (refine S.sp q1q fun b a24 => ?_; cases b <;> (try exact nope a24)) | refine S.one trivial ?_)
    all_goals iterate 4 refine S.one q1q ?_
    all_goals (first | (refine S.sp q1q fun b a29 => ?_; cases b <;> (try exact nope a29)) | refine S.one trivial ?_)
    all_goals iterate 8 refine S.one q1q ?_
    all_goals refine S.nil ?_
    all_goals simp only [ze, simprocAttr, q1q]
    all_goals (try simp only [bl] at *)
    all_goals (try simp only [V.c.injEq, Value.bool.injEq, Value.int.injEq, true_and, nameC, a20])
    all_goals exact shut
   rintro s1 σ1 ⟨rfl, f0, f3, f37⟩
   rw [hd] at hp
   refine AW.cond (b := !nameC i c) f37 (fun ht => ?_) (fun hf => AW.skip ?_)
   ·refine AW.sr trivial ?_
    refine AW.ret ?_
    simp only [zs, simprocAttr]
    have hx : nameC i c = false := by simpa using ht
    simp [isName, hp, nameL, hx]
   ·simp only [zs, simprocAttr]
    all_goals apply_assumption
    have hw : IntKind.i64.wrap ((i : Int) + 1) = ((i + 1 : Nat) : Int) := by rw [wrap_small _ (by omega) (by omega)]; rfl
    refine AW.reg0 (S.rn (J2 f3 hw) ?_)
    simp only [ze, simprocAttr, f3, hw]
    have hx : nameC i c = true := by simpa using hf
    refine ⟨m - 1, by omega, i + 1, by omega, f0, rfl, ?_⟩
    rw [hp, nameL, hx, Bool.true_and]
  ·refine AW.exit ?_
   simp only [zs, simprocAttr]
   -- EXIT 0
   all_goals apply_assumption
   have hi : str.size ≤ i := by simpa using hc
   have hnil : str.data.toList.drop i = [] := List.drop_of_length_le (by rw [Array.length_toList]; exact hi)
   rw [hnil] at hp
   refine AW.sr trivial ?_
   refine AW.ret ?_
   simp only [zs, simprocAttr]
   have h2 : (str.size != 0) = true := by simpa using hx0
   simp only [V.c.injEq, Value.bool.injEq, isName, hp, nameL]
   rw [h2, Bool.true_and, Bool.true_and, eq_comm, decide_eq_true_eq]
   exact hx1
theorem rcheck_attrs (l : List Attr) (hl : okA l) : PCalls Tryz.prog 77 [.sl (l.map encAttr)] (fun r => r = .c (.int .i64 (attrsErr l))) := by
 refine PCalls.intro Tryz.call77 Tryz.func77 rfl Tryz.ntmps77 Tryz.results77 (by simp) ?_
 refine AW.sr trivial ?_
 refine AW.seq_k fun K2 h2 => ?_
 refine AW.sr trivial ?_
 refine AW.cd (decide ((l.length : Int) > 8)) (fun hc => ?_) (fun hc => ?_)
 ·refine AW.sr trivial ?_
  refine AW.ret ?_
  simp only [zs, simprocAttr]
  have : 8 < l.length := by have := of_decide_eq_true hc; omega
  simp [attrsErr, this]
 ·refine AW.skip ?_
  simp only [zs, simprocAttr]
  all_goals apply_assumption
  have hlen : l.length ≤ 8 := by have := of_decide_eq_false hc; omega
  refine AW.seq_k fun K5 h5 => ?_
  refine AW.sr trivial ?_
  refine AW.block ?_   -- 0
  refine AW.loop (fun m s σ => σ = Hp.empty ∧ ∃ i : Nat, m + i = l.length ∧ s.t 0 = .sl (l.map encAttr) ∧ s.t 3 = .c (.int .i64 i) ∧ 
   attrsFrom none l = attrsFrom (if i = 0 then none else (l[i-1]?).map (·.name)) (l.drop i)) l.length ?_ ?_
  ·refine ⟨rfl, 0, by simp, ?_⟩
   simp only [zs, simprocAttr]
   simp
  rintro m s σ ⟨rfl, i, hm, e0, e11, hp⟩
  refine AW.seq_k fun K7 h7 => ?_
  refine AW.sr (J2 e0 e11) ?_
  refine AW.cd (decide (i < l.length)) (fun hc => ?_) (fun hc => ?_)
  ·refine AW.skip ?_
   simp only [zs, simprocAttr]
   all_goals apply_assumption
   have hi : i < l.length := by simpa using hc
   have hg := getD_map (f := encAttr) hi
   have hd : l.drop i = l[i] :: l.drop (i + 1) := List.drop_eq_getElem_cons hi
   have hmem := hl _ (List.getElem_mem hi)
   generalize ha : l[i] = a at hg hd hmem
   obtain ⟨hn1, hn2⟩ := hmem
   refine AW.seq_k fun K9 h9 => ?_
   refine AW.block ?_   -- 1
   refine AW.seq_k fun K10 h10 => ?_
   refine AW.seq_k fun K11 h11 => ?_
   refine AW.reg0 ?_
   iterate 5 refine S.one (J5 e0 e11 hi hg @encAttr.eq_1) ?_
   have q1q := J5 e0 e11 hi hg @encAttr.eq_1
   (refine S.g rfl rfl fun Y Z => ?_; simp only [zz, simprocAttr, q1q]; refine PCalls.eqto (rname_spec _ (by assumption)) ?_ <;> (refine Z _ _ ?_; clear Z Y))
   refine S.one q1q ?_
   (refine S.nil ?_; simp only [ze, simprocAttr, q1q]; apply_assumption)
   refine AW.cond (b := !isName a.name) (by simp [ev]) (fun hc => ?_) (fun hc => ?_)
   ·refine AW.sr trivial ?_
    refine AW.ret ?_
    simp only [zs, simprocAttr]
    have hx : isName a.name = false := by simpa using hc
    have h8 : ¬ 8 < l.length := by omega
    simp [attrsErr, h8, hp, hd, attrsFrom, hx]
   ·refine AW.skip ?_
    simp only [zs, simprocAttr]
    all_goals apply_assumption
    have hx : isName a.name = true := by simpa using hc
    refine AW.seq_k fun K13 h13 => ?_
    refine AW.seq_k fun K14 h14 => ?_
    refine AW.reg0 ?_
    iterate 5 refine S.one (J5 e0 e11 hi hg @encAttr.eq_1) ?_
    have q2q := J5 e0 e11 hi hg @encAttr.eq_1
    (refine S.g rfl rfl fun Y Z => ?_; simp only [zz, simprocAttr, q2q]; refine PCalls.eqto (rcheck_val _) ?_ <;> (refine Z _ _ ?_; clear Z Y))
    refine S.one q2q ?_
    (refine S.nil ?_; simp only [ze, simprocAttr, q2q]; apply_assumption)
    refine AW.sr trivial ?_
    refine AW.cond (b := valErr a.v != 0) (by simp [ev]) (fun hc => ?_) (fun hc => ?_)
    ·refine AW.sr trivial ?_
     refine AW.ret ?_
     simp only [zs, simprocAttr]
     have hy : valErr a.v ≠ 0 := by simpa using hc
     have h8 : ¬ 8 < l.length := by omega
     simp [attrsErr, h8, hp, hd, attrsFrom, hx, hy]
    ·refine AW.skip ?_
     simp only [zs, simprocAttr]
     all_goals apply_assumption
     have hy : valErr a.v = 0 := by simpa using hc
     refine AW.seq_j (fun s' σ' => σ' = Hp.empty ∧ s'.t 0 = .sl (l.map encAttr) ∧ s'.t 3 = .c (.int .i64 i) ∧
      s'.t 45 = .c (.bool ((if i = 0 then none else (l[i-1]?).map (·.name)).any (leS a.name ·)))) ?_ ?_
     ·clear hp hd
      by_cases hi0 : i = 0
      ·subst hi0
       refine AW.dw [(0,0),(1,0),(2,0),(3,0),(4,0),(5,0),(6,0),(8,0),(9,0),(10,0),(11,0),(12,0),(7,1),(13,1),(14,0),(15,0)] ?_
       refine D.one (J2 e0 e11) ?_
       (refine D.sp (J2 e0 e11) fun b a31 => ?_; cases b <;> (try exact nope a31))
       iterate 14 refine D.one (J2 e0 e11) ?_
       refine D.nil ?_
       simp only [ze, simprocAttr, e0, e11]
       simp
      ·have hi1 : i - 1 < l.length := by omega
       have hg1 := getD_map (f := encAttr) hi1
       have hw : IntKind.i64.wrap ((i : Int) - 1) = ((i - 1 : Nat) : Int) := by rw [wrap_small _ (by omega) (by omega)]; omega
       refine AW.dw [(0,0),(1,0),(2,0),(3,0),(4,0),(5,0),(6,0),(8,0),(9,0),(10,0),(11,0),(12,0),(7,1),(13,1),(14,0),(15,0)] ?_
       have q3q := J8 e0 e11 hi hg hi1 hg1 @encAttr.eq_1 hw
       refine D.one q3q ?_
       (refine D.sp q3q fun b a31 => ?_; cases b <;> (try exact nope a31))
       iterate 14 refine D.one q3q ?_
       refine D.nil ?_
       simp only [ze, simprocAttr, q3q]
       simp [hi0, hi1, leS]
     rintro s1 σ1 ⟨rfl, f0, f11, f38⟩
     refine AW.cond (b := _) f38 (fun hc => ?_) (fun hc => ?_)
     ·refine AW.sr trivial ?_
      refine AW.ret ?_
      simp only [zs, simprocAttr]
      have h8 : ¬ 8 < l.length := by omega
      simp [attrsErr, h8, hp, hd, attrsFrom, hx, hy, hc]
     ·refine AW.skip ?_
      simp only [zs, simprocAttr]
      all_goals apply_assumption
      have hw : IntKind.i64.wrap ((i : Int) + 1) = ((i + 1 : Nat) : Int) := by rw [wrap_small _ (by omega) (by omega)]; rfl
      refine AW.reg0 (S.rn (J2 f11 hw) ?_)
      simp only [ze, simprocAttr, f11, hw]
      refine ⟨m - 1, by omega, i + 1, by omega, f0, rfl, ?_⟩
      rw [hp, hd, attrsFrom]
      simp [hx, hy, hc, ha, hi]
  ·refine AW.exit ?_
   simp only [zs, simprocAttr]
   -- EXIT 0
   all_goals apply_assumption
   refine AW.sr trivial ?_
   refine AW.ret ?_
   simp only [zs, simprocAttr]
   have hi : l.length ≤ i := by simpa using hc
   have h8 : ¬ 8 < l.length := by omega
   simp [attrsErr, h8, hp, List.drop_of_length_le hi, attrsFrom]
theorem rcheck_ev (e : Ev) (he : okE e) : PCalls Tryz.prog 41 [.agg (encEv e)] (fun r => r = .c (.int .i64 (evErr e))) := by
 have h1 := he.type
 have h2 := he.attrs
 refine PCalls.intro Tryz.call41 Tryz.func41 rfl Tryz.ntmps41 Tryz.results41 (by simp) ?_
 refine AW.sr @encEv.eq_1 ?_
 refine AW.seq_k fun K2 h2 => ?_
 refine AW.seq_j (fun s' σ' => σ' = Hp.empty ∧ s'.l 1 = some (encEv e) ∧ s'.t 1 = .lp 1 0 ∧ s'.t 31 = .c (.bool (decide (e.src < 0 ∨ 16 ≤ e.src ∨ timeOk e.seq = false ∨ timeOk e.time = false ∨ isName e.type = false)))) ?_ ?_
 ·skip
  refine AW.reg0 ?_
  iterate 3 refine S.one @encEv.eq_1 ?_
  (refine S.sp @encEv.eq_1 fun b a6 => ?_; cases b <;> (try exact nope a6))
  all_goals iterate 4 refine S.one @encEv.eq_1 ?_
  all_goals (first | (refine S.sp @encEv.eq_1 fun b a11 => ?_; cases b <;> (try exact nope a11)) | refine S.one trivial ?_)
  all_goals iterate 5 refine S.one @encEv.eq_1 ?_
  all_goals (first | (refine S.cb @encEv.eq_1 (rtime_spec _) fun b a17 => ?_; cases b <;> (try exact nope a17)) | refine S.one trivial ?_)
  all_goals iterate 5 refine S.one @encEv.eq_1 ?_
  all_goals (first | (refine S.cb @encEv.eq_1 (rtime_spec _) fun b a23 => ?_; cases b <;> (try exact nope a23)) | refine S.one trivial ?_)
  all_goals iterate 5 refine S.one @encEv.eq_1 ?_
  all_goals (first | (refine S.cl @encEv.eq_1 (rname_spec _ (by assumption)) ?_) | refine S.one trivial ?_)
  all_goals iterate 2 refine S.one @encEv.eq_1 ?_
  all_goals refine S.nil ?_
  all_goals simp only [ze, simprocAttr, encEv]
  all_goals simp_all
  have k1 : ¬ e.src < 0 := by omega
  have k2 : ¬ 16 ≤ e.src := by omega
  simp [k1, k2]
 rintro s σ ⟨rfl, l1, e1, e31⟩
 rw [encEv] at l1
 refine AW.cond (b := _) e31 (fun hc => ?_) (fun hc => ?_)
 ·refine AW.sr trivial ?_
  refine AW.ret ?_
  simp only [zs, simprocAttr]
  have := of_decide_eq_true hc
  simp [evErr, this]
 ·refine AW.skip ?_
  simp only [zs, simprocAttr]
  all_goals apply_assumption
  refine AW.seq_k fun K4 h4 => ?_
  refine AW.reg0 ?_
  iterate 2 refine S.one (J2 e1 l1) ?_
  refine S.cl (J2 e1 l1) (rcheck_attrs _ (by assumption)) ?_
  all_goals refine S.one (J2 e1 l1) ?_
  all_goals (refine S.nil ?_; simp only [ze, simprocAttr, e1, l1]; apply_assumption)
  refine AW.ret ?_
  all_goals simp only [zs, simprocAttr]
  have := of_decide_eq_false hc
  simp only [evErr, if_neg this]
def idOf (b : Bd) : Int × Int := (b.ev.src, b.ev.seq)
theorem rcheck_part (l : List Bd) (hl : okP l) : PCalls Tryz.prog 49 [.agg [.sl (l.map encBd)]] (fun r => r = .c (.int .i64 (partErr l))) := by
 refine PCalls.intro Tryz.call49 Tryz.func49 rfl Tryz.ntmps49 Tryz.results49 (by simp) ?_
 refine AW.sr trivial ?_
 refine AW.sr trivial ?_
 refine AW.seq_k fun K3 h3 => ?_
 refine AW.sr trivial ?_
 refine AW.cd (decide ((l.length : Int) > 12)) (fun hc => ?_) (fun hc => ?_)
 ·refine AW.sr trivial ?_
  refine AW.ret ?_
  simp only [zs, simprocAttr]
  have : 12 < l.length := by have := of_decide_eq_true hc; omega
  simp [partErr, this]
 ·refine AW.skip ?_
  simp only [zs, simprocAttr]
  all_goals apply_assumption
  have hlen : l.length ≤ 12 := by have := of_decide_eq_false hc; omega
  refine AW.seq_k fun K6 h6 => ?_
  refine AW.sr trivial ?_
  refine AW.block ?_   -- 0
  refine AW.loop (fun m s σ => σ = Hp.empty ∧ ∃ i : Nat, m + i = l.length ∧ s.t 3 = .sl (l.map encBd) ∧ s.t 4 = .c (.int .i64 i) ∧
   partFrom l.length none [] l = partFrom l.length (if i = 0 then none else (l[i-1]?).map (·.var)) ((l.take i).map idOf) (l.drop i)) l.length ?_ ?_
  ·refine ⟨rfl, 0, by simp, ?_⟩
   simp only [zs, simprocAttr]
   simp
  rintro m s σ ⟨rfl, i, hm, e3, e4, hp⟩
  refine AW.seq_k fun K8 h8 => ?_
  refine AW.sr (J2 e3 e4) ?_
  refine AW.cd (decide (i < l.length)) (fun hc => ?_) (fun hc => ?_)
  ·refine AW.skip ?_
   simp only [zs, simprocAttr]
   all_goals apply_assumption
   have hi : i < l.length := by simpa using hc
   have hg := getD_map (f := encBd) hi
   have hd : l.drop i = l[i] :: l.drop (i + 1) := List.drop_eq_getElem_cons hi
   have hmem := hl _ (List.getElem_mem hi)
   have htk : l.take (i + 1) = l.take i ++ [l[i]] := by rw [List.take_append_getElem]
   generalize ha : l[i] = a at hg hd hmem htk
   have hn1 := hmem.var
   have hn2 := hmem.ev
   have h8 : ¬ 12 < l.length := by omega
   refine AW.seq_k fun K10 h10 => ?_
   refine AW.block ?_   -- 1
   refine AW.seq_j (fun s' σ' => σ' = Hp.empty ∧ s'.t 3 = .sl (l.map encBd) ∧ s'.t 4 = .c (.int .i64 i) ∧ named l.length a = true ∧ (if i = 0 then none else (l[i-1]?).map (·.var)).any (leS a.var ·) = false) ?_ ?_
   ·refine AW.seq_j (fun s' σ' => σ' = Hp.empty ∧ s'.t 3 = .sl (l.map encBd) ∧ s'.t 4 = .c (.int .i64 i) ∧
     s'.t 55 = .c (.bool (!named l.length a || (if i = 0 then none else (l[i-1]?).map (·.var)).any (leS a.var ·)))) ?_ ?_
    ·clear hp hd hl hmem htk h8
     by_cases hi0 : i = 0
     ·have hpb : (if i = 0 then none else (l[i-1]?).map (·.var)).any (leS a.var ·) = false := by simp [hi0]
      rw [hpb]
      refine AW.dw [(0,0),(1,0),(2,0),(3,0),(4,1),(5,2),(6,0),(7,0),(8,0),(9,0),(10,0),(11,0),(12,1),(13,0),(14,0),(15,0),(16,0),(17,0),(18,0),(19,0),(20,0),(21,0),(22,0),(23,0),(24,0),(25,0),(26,0),(27,0),(29,0),(30,0),(31,0),(32,0),(33,0),(28,1),(34,1),(35,0),(36,0),(37,0)] ?_
      have q1q := J5 e3 e4 hi hg @encBd.eq_1
      iterate 5 refine D.one q1q ?_
      have q2q := J5 e3 e4 hi hg @encBd.eq_1
      (refine D.cb q2q (rname_spec _ (by assumption)) fun b a23 => ?_; cases b <;> (try exact nope a23))
      all_goals iterate 7 refine D.one q2q ?_
      all_goals (first | (refine D.sp q2q fun b a31 => ?_; cases b <;> (try exact nope a31)) | refine D.one trivial ?_)
      all_goals iterate 3 refine D.one q2q ?_
      all_goals (first | (refine D.sp q2q fun b a35 => ?_; cases b <;> (try exact nope a35)) | refine D.one trivial ?_)
      all_goals iterate 4 refine D.one q2q ?_
      all_goals (first | (refine D.sp q2q fun b a40 => ?_; cases b <;> (try exact nope a40)) | refine D.one trivial ?_)
      all_goals iterate 15 refine D.one q2q ?_
      all_goals refine D.nil ?_
      all_goals simp only [ze, simprocAttr, q2q]
      all_goals clear hpb hg hn2 hn1 hc
      all_goals (try simp only [bl] at *)
      all_goals (try simp only [V.c.injEq, Value.bool.injEq, Value.int.injEq, true_and, named, a23])
      all_goals exact shut
     ·have hi1 : i - 1 < l.length := by omega
      have hpb : (if i = 0 then none else (l[i-1]?).map (·.var)).any (leS a.var ·) = leS a.var l[i-1].var := by simp [hi0, hi1]
      obtain ⟨q, hq⟩ : ∃ q, leS a.var l[i-1].var = q := ⟨_, rfl⟩
      have hle : (Op.bytesLess a.var.toList l[i-1].var.toList || a.var.toList == l[i-1].var.toList) = q := hq
      rw [hpb, hq]
      have hg1 := getD_map (f := encBd) hi1
      have hw : IntKind.i64.wrap ((i : Int) - 1) = ((i - 1 : Nat) : Int) := by rw [wrap_small _ (by omega) (by omega)]; omega
      refine AW.dw [(0,0),(1,0),(2,0),(3,0),(4,1),(5,2),(6,0),(7,0),(8,0),(9,0),(10,0),(11,0),(12,1),(13,0),(14,0),(15,0),(16,0),(17,0),(18,0),(19,0),(20,0),(21,0),(22,0),(23,0),(24,0),(25,0),(26,0),(27,0),(29,0),(30,0),(31,0),(32,0),(33,0),(28,1),(34,1),(35,0),(36,0),(37,0)] ?_
      have q3q := J9 e3 e4 hi hg @encBd.eq_1 hi1 hg1 hw hle
      iterate 5 refine D.one q3q ?_
      have q4q := J9 e3 e4 hi hg @encBd.eq_1 hi1 hg1 hw hle
      (refine D.cb q4q (rname_spec _ (by assumption)) fun b a23 => ?_; cases b <;> (try exact nope a23))
      all_goals iterate 7 refine D.one q4q ?_
      all_goals (first | (refine D.sp q4q fun b a31 => ?_; cases b <;> (try exact nope a31)) | refine D.one trivial ?_)
      all_goals iterate 3 refine D.one q4q ?_
      all_goals (first | (refine D.sp q4q fun b a35 => ?_; cases b <;> (try exact nope a35)) | refine D.one trivial ?_)
      all_goals iterate 4 refine D.one q4q ?_
      all_goals (first | (refine D.sp q4q fun b a40 => ?_; cases b <;> (try exact nope a40)) | refine D.one trivial ?_)
      all_goals iterate 15 refine D.one q4q ?_
      all_goals refine D.nil ?_
      all_goals simp only [ze, simprocAttr, q4q]
      all_goals clear hpb hg hn2 hn1 hc hg1 hw hle hq
      all_goals cases q
      all_goals (try simp only [bl] at *)
      all_goals (try simp only [V.c.injEq, Value.bool.injEq, Value.int.injEq, true_and, named, a23])
      all_goals exact shut
    rintro s2 σ2 ⟨rfl, g3, g4, g55⟩
    refine AW.cond (b := _) g55 (fun hc => ?_) (fun hc => ?_)
    ·refine AW.sr trivial ?_
     refine AW.ret ?_
     simp only [zs, simprocAttr]
     have hx : named l.length a = false ∨ (if i = 0 then none else (l[i-1]?).map (·.var)).any (leS a.var ·) = true ∨ (a.ev.src, a.ev.seq) ∈ (l.take i).map idOf := by
      simp only [Bool.or_eq_true, Bool.not_eq_true'] at hc
      rcases hc with h | h
      ·exact .inl h
      ·exact .inr (.inl h)
     simp only [partErr, if_neg h8, hp, hd, partFrom, if_pos hx, and_self]
    ·refine AW.skip ?_
     simp only [zs, simprocAttr]
     simp only [Bool.or_eq_false_iff, Bool.not_eq_false'] at hc
     exact ⟨g3, g4, hc.1, hc.2⟩
   rintro s2 σ2 ⟨rfl, g3, g4, hx1, hx2⟩
   refine AW.seq_j (fun s' σ' => σ' = Hp.empty ∧ s'.t 3 = .sl (l.map encBd) ∧ s'.t 4 = .c (.int .i64 i) ∧ (a.ev.src, a.ev.seq) ∉ (l.take i).map idOf) ?_ ?_
   ·refine AW.sr trivial ?_
    refine AW.block ?_   -- 2
    refine AW.loop (fun m s σ => σ = Hp.empty ∧ ∃ k : Nat, m + k = i ∧ s.t 3 = .sl (l.map encBd) ∧ s.t 4 = .c (.int .i64 i) ∧ s.t 5 = .c (.int .i64 k) ∧ (a.ev.src, a.ev.seq) ∉ (l.take k).map idOf) i ?_ ?_
    ·refine ⟨rfl, 0, by simp, ?_⟩
     simp only [zs, reduceIte, Nat.reduceEqDiff, Nat.reduceLT, Nat.reduceLeDiff, Nat.reduceAdd, reduceCtorEq, Nat.reduceMul]
     exact ⟨g3, g4, rfl, by simp⟩
    rintro m2 s3 σ3 ⟨rfl, k, hm2, j3, j4, j5, hk⟩
    refine AW.seq_k fun K13 h13 => ?_
    all_goals refine AW.sr (J2 j4 j5) ?_
    refine AW.cd (decide ((k : Int) < i)) (fun hc => ?_) (fun hc => ?_)
    ·refine AW.skip ?_
     simp only [zs, simprocAttr]
     all_goals apply_assumption
     have hki : k < i := by have := of_decide_eq_true hc; omega
     have hkl : k < l.length := by omega
     have hgk := getD_map (f := encBd) hkl
     have htkk : l.take (k + 1) = l.take k ++ [l[k]] := by rw [List.take_append_getElem]
     generalize hak : l[k] = b at hgk htkk
     refine AW.seq_k fun K15 h15 => ?_
     refine AW.block ?_   -- 3
     refine AW.seq_k fun K16 h16 => ?_
     refine AW.dv { sd := fun _ => false, eqk := eqTab } [(0,0),(1,0),(2,0),(3,0),(4,0),(6,0),(7,0),(8,0),(9,0),(10,0),(5,1),(11,1),(12,0)] ?_ eqTab_ok
     have q5q := J8 j3 j4 j5 hi hg hkl hgk @encBd.eq_1
     iterate 12 refine D.one q5q ?_
     refine D.one (J12 @eqk45 @fitsAll.eq_1 @fitsAll.eq_2 @fitsAll.eq_3 @SK.fits.eq_1 @SK.fits.eq_2 @SK.fits.eq_3 @SK.fits.eq_4 @cellsEq.eq_1 @cellsEq.eq_2 @cellsEq.eq_3 (J12 @cellEq.eq_1 @cellEq.eq_2 @cellEq.eq_3 @cellEq.eq_4 j3 j4 j5 hi hg hkl hgk @encBd.eq_1)) ?_
     (refine D.nil ?_; apply_assumption)
     refine AW.cond (b := _) (by simp only [ev, St.put_t, Nat.reduceEqDiff, if_true]; rfl) (fun hc => ?_) (fun hc => ?_)
     ·refine AW.sr trivial ?_
      refine AW.ret ?_
      simp only [zs, simprocAttr]
      have hx : named l.length a = false ∨ (if i = 0 then none else (l[i-1]?).map (·.var)).any (leS a.var ·) = true ∨ (a.ev.src, a.ev.seq) ∈ (l.take i).map idOf := by
       refine .inr (.inr (List.mem_map.2 ⟨b, ?_, ?_⟩))
       ·rw [← hak, ← List.getElem_take (j := i) (h := by rw [List.length_take]; omega)]
        exact List.getElem_mem _
       ·simp only [Bool.and_eq_true, beq_iff_eq] at hc
        simp [idOf, hc.1, hc.2]
      simp only [partErr, if_neg h8, hp, hd, partFrom, if_pos hx, and_self]
     ·refine AW.skip ?_
      simp only [zs, simprocAttr]
      all_goals apply_assumption
      have hw : IntKind.i64.wrap ((k : Int) + 1) = ((k + 1 : Nat) : Int) := by rw [wrap_small _ (by omega) (by omega)]; rfl
      refine AW.reg0 (S.rn (J2 j5 hw) ?_)
      simp only [ze, simprocAttr, j5, hw]
      refine ⟨m2 - 1, by omega, k + 1, by omega, j3, j4, rfl, ?_⟩
      rw [htkk, List.map_append, List.mem_append]
      rintro (h | h)
      ·exact hk h
      ·simp only [List.map_cons, List.map_nil, List.mem_singleton, idOf, Prod.mk.injEq] at h
       rw [h.1, h.2] at hc
       simp at hc
    ·refine AW.exit ?_
     simp only [zs, simprocAttr]
     have hki : k = i := by have := of_decide_eq_false hc; omega
     subst hki
     exact ⟨j3, j4, hk⟩
   rintro s3 σ3 ⟨rfl, j3, j4, hx3⟩
   have hx : ¬ (named l.length a = false ∨ (if i = 0 then none else (l[i-1]?).map (·.var)).any (leS a.var ·) = true ∨ (a.ev.src, a.ev.seq) ∈ (l.take i).map idOf) := by
    rintro (h | h | h)
    ·rw [hx1] at h; cases h
    ·rw [hx2] at h; cases h
    ·exact hx3 h
   refine AW.seq_k fun K18 h18 => ?_
   all_goals refine AW.reg0 ?_
   all_goals iterate 5 refine S.one (J5 j3 j4 hi hg @encBd.eq_1) ?_
   all_goals have q6q := J5 j3 j4 hi hg @encBd.eq_1
   all_goals refine S.cl q6q (rcheck_ev _ (by assumption)) ?_
   all_goals refine S.one q6q ?_
   all_goals (refine S.nil ?_; simp only [ze, simprocAttr, q6q]; apply_assumption)
   all_goals refine AW.sr trivial ?_
   refine AW.cd (evErr a.ev != 0) (fun hc => ?_) (fun hc => ?_)
   ·refine AW.sr trivial ?_
    refine AW.ret ?_
    simp only [zs, simprocAttr]
    have hy : evErr a.ev ≠ 0 := by simpa using hc
    simp only [partErr, if_neg h8, hp, hd, partFrom, if_neg hx, if_pos hy, and_self]
   ·refine AW.skip ?_
    simp only [zs, simprocAttr]
    all_goals apply_assumption
    have hy : evErr a.ev = 0 := by simpa using hc
    have hw : IntKind.i64.wrap ((i : Int) + 1) = ((i + 1 : Nat) : Int) := by rw [wrap_small _ (by omega) (by omega)]; rfl
    refine AW.reg0 (S.rn (J2 j4 hw) ?_)
    simp only [ze, simprocAttr, j4, hw]
    refine ⟨m - 1, by omega, i + 1, by omega, j3, rfl, ?_⟩
    rw [hp, hd, partFrom, if_neg hx, if_neg (fun e => e hy), htk]
    simp [ha, hi, idOf]
  ·refine AW.exit ?_
   simp only [zs, simprocAttr]
   -- EXIT 0
   all_goals apply_assumption
   refine AW.sr trivial ?_
   refine AW.ret ?_
   simp only [zs, simprocAttr]
   have hi : l.length ≤ i := by simpa using hc
   have h8 : ¬ 12 < l.length := by omega
   simp [partErr, h8, hp, List.drop_of_length_le hi, partFrom]
theorem rclone_ev (e : Ev) (hl : e.attrs.length * 48 ≤ 140737488355328) : PCalls Tryz.prog 173 [.agg (encEv e)] (fun r => r = .agg (encEv e)) := by
 refine PCalls.intro Tryz.call173 Tryz.func173 rfl Tryz.ntmps173 Tryz.results173 (by simp) ?_
 refine AW.sr @encEv.eq_1 ?_
 refine AW.seq_k fun K2 h2 => ?_
 refine AW.reg0 ?_
 iterate 2 refine S.one trivial ?_
 (refine S.g rfl rfl fun Y Z => ?_; simp only [zz, simprocAttr, -Int.reduceNatCast', tt]; refine ⟨len_attr _, by unfold maxLen; omega, by unfold reach; omega, fun k2 hk2 => ?_⟩ <;> (refine Z _ _ ?_; clear Z Y))
 all_goals iterate 2 refine S.one trivial ?_
 all_goals (refine S.nil ?_; simp only [ze, simprocAttr]; apply_assumption)
 all_goals refine AW.sr trivial ?_
 refine AW.freeze (k := k2) (T := (119, 4)) (es := e.attrs.map encAttr) (by simp only [Hp.setGr_gr, if_true]) (AW.bare (AW.ret ?_))
 all_goals simp only [zs, simprocAttr, qLoad, tt, cut, List.drop_zero, List.take_succ_cons, List.take_zero, fzV, fz1, St.fz_t, St.fz_l, Option.map_some, List.map]
 simp only [List.map, wk1, encEv]
theorem rclone_part (l : List Bd) (hl : ∀ b ∈ l, b.ev.attrs.length * 48 ≤ 140737488355328) (hn : l.length * 80 ≤ 140737488355328) : PCalls Tryz.prog 144 [.agg [.sl (l.map encBd)]] (fun r => r = .agg [.sl (l.map encBd)]) := by
 refine PCalls.intro Tryz.call144 Tryz.func144 rfl Tryz.ntmps144 Tryz.results144 (by simp) ?_
 refine AW.sr trivial ?_
 refine AW.sr trivial ?_
 refine AW.seq_k fun K3 h3 => ?_
 refine AW.sr trivial ?_
 refine AW.block ?_   -- 0
 refine AW.loop (fun m s σ => ∃ i : Nat, m + i = l.length ∧ s.t 1 = .lp 1 0 ∧ s.l 1 = some [.sl (l.map encBd)] ∧ s.t 2 = .lp 2 0 ∧ s.l 2 = some [.c (.slice none 0 0)] ∧ s.t 4 = .c (.int .i64 i) ∧
  ((i = 0 ∧ s.t 3 = .c (.slice none 0 0) ∧ σ = Hp.empty) ∨ ∃ k, s.t 3 = .gl k ∧ σ = Hp.empty.setGr k (some ((50, 6), (l.take i).map encBd)))) l.length ?_ ?_
 ·refine ⟨0, by simp, ?_⟩
  simp only [zs, simprocAttr]
  simp
 rintro m s σ ⟨i, hm, e1, l1, e2, l2, e4, hk⟩
 refine AW.seq_k fun K5 h5 => ?_
 refine AW.sr (J3 e1 l1 e4) ?_
 refine AW.cd (decide (i < l.length)) (fun hc => ?_) (fun hc => ?_)
 ·refine AW.skip ?_
  simp only [zs, simprocAttr]
  all_goals apply_assumption
  have hi : i < l.length := by simpa using hc
  have hg := getD_map (f := encBd) hi
  have htk : l.take (i + 1) = l.take i ++ [l[i]] := by rw [List.take_append_getElem]
  have hmem := hl _ (List.getElem_mem hi)
  generalize ha : l[i] = a at hg htk hmem
  have hw : IntKind.i64.wrap ((i : Int) + 1) = ((i + 1 : Nat) : Int) := by rw [wrap_small _ (by omega) (by omega)]; rfl
  refine AW.seq_k fun K7 h7 => ?_
  refine AW.block ?_   -- 1
  rcases hk with ⟨rfl, e3, rfl⟩ | ⟨k, e3, rfl⟩
  ·skip
   refine AW.dv { sd := fun d => d == 1 } [(0,0),(1,0),(3,0),(7,0),(9,0),(2,1),(4,0),(5,0),(6,1),(8,1),(10,0),(11,0),(12,1),(13,2),(14,0),(15,2),(16,2),(17,0)] ?_
   have q1q := J8 e3 e1 l1 e4 hi hg @encBd.eq_1 @encEv.eq_1
   iterate 5 refine D.one q1q ?_
   refine D.one q1q ?_
   iterate 2 refine D.one q1q ?_
   iterate 2 refine D.one q1q ?_
   iterate 2 refine D.one q1q ?_
   refine D.one q1q ?_
   refine D.cl (J8 e3 e1 l1 e4 hi hg @encBd.eq_1 @encEv.eq_1) (rclone_ev _ (by assumption)) ?_
   all_goals iterate 2 (refine D.g rfl trivial rfl rfl fun Y Z => ?_; simp only [zb, simprocAttr, -Int.reduceNatCast', tt, e3, e1, l1, e4, hi, hg, encBd, encEv]; refine Z _ _ ?_; clear Z Y)
   all_goals have q2q := J8 e3 e1 l1 e4 hi hg @encBd.eq_1 @encEv.eq_1
   all_goals (refine D.g rfl trivial rfl rfl fun Y Z => ?_; simp only [zz, simprocAttr, -Int.reduceNatCast', tt, q2q]; refine ⟨len_bd [a], by unfold maxLen; omega, by unfold reach; omega, fun k2 hk2 => ?_⟩ <;> (refine Z _ _ ?_; clear Z Y))
   all_goals refine D.one q2q ?_
   all_goals (refine D.nil ?_; apply_assumption)
   all_goals have q3q := J6 e4 hw e1 e2 l1 l2
   all_goals refine AW.reg0 (S.rn q3q ?_)
   all_goals simp only [ze, simprocAttr, q3q]
   refine ⟨m - 1, by omega, 1, by omega, rfl, .inr ⟨k2, rfl, ?_⟩⟩
   rw [show l.take 1 = [] ++ [a] from htk]; rfl
  ·have htl : (l.take i).length = i := by rw [List.length_take]; omega
   refine AW.dv { sd := fun d => d == 1 } [(0,0),(1,0),(3,0),(7,0),(9,0),(2,1),(4,0),(5,0),(6,1),(8,1),(10,0),(11,0),(12,1),(13,2),(14,0),(15,2),(16,2),(17,0)] ?_
   have q4q := J9 e3 e1 l1 e4 hi hg @encBd.eq_1 @encEv.eq_1 htl
   iterate 5 refine D.one q4q ?_
   refine D.one q4q ?_
   iterate 2 refine D.one q4q ?_
   iterate 2 refine D.one q4q ?_
   iterate 2 refine D.one q4q ?_
   refine D.one q4q ?_
   refine D.cl (J9 e3 e1 l1 e4 hi hg @encBd.eq_1 @encEv.eq_1 htl) (rclone_ev _ (by assumption)) ?_
   all_goals iterate 2 (refine D.g rfl trivial rfl rfl fun Y Z => ?_; simp only [zb, simprocAttr, -Int.reduceNatCast', tt, e3, e1, l1, e4, hi, hg, encBd, encEv, htl]; refine Z _ _ ?_; clear Z Y)
   all_goals have q5q := J9 e3 e1 l1 e4 hi hg @encBd.eq_1 @encEv.eq_1 htl
   all_goals (refine D.g rfl trivial rfl rfl fun Y Z => ?_; simp only [zz, simprocAttr, -Int.reduceNatCast', tt, q5q]; refine ⟨len_bd [a], by unfold maxLen; omega, by unfold reach; omega, fun k2 hk2 => ?_⟩ <;> (refine Z _ _ ?_; clear Z Y))
   all_goals refine D.one q5q ?_
   all_goals (refine D.nil ?_; apply_assumption)
   all_goals have q6q := J6 e4 hw e1 e2 l1 l2
   all_goals refine AW.reg0 (S.rn q6q ?_)
   all_goals simp only [ze, simprocAttr, q6q]
   refine ⟨m - 1, by omega, i + 1, by omega, rfl, .inr ⟨k2, rfl, ?_⟩⟩
   rw [htk, List.map_append]
   simp [encBd]
 ·refine AW.exit ?_
  simp only [zs, simprocAttr]
  -- EXIT 0
  -- BEHIND THE LOOP
  all_goals apply_assumption
  have hi : l.length ≤ i := by simpa using hc
  rcases hk with ⟨rfl, e3, rfl⟩ | ⟨k, e3, rfl⟩
  ·have h0 : l = [] := List.eq_nil_of_length_eq_zero (by omega)
   refine AW.sr (J3 e3 e2 l2) ?_
   refine AW.ret ?_
   simp only [zs, simprocAttr, qLoad, tt, cut, List.drop_zero, List.take_succ_cons, List.take_zero, e2, List.map, h0]
  ·rw [List.take_of_length_le hi]
   refine AW.sr (J3 e3 e2 l2) ?_
   refine AW.freeze (k := k) (T := (50, 6)) (es := l.map encBd) (by simp only [Hp.setGr_gr, if_true]) (AW.bare (AW.ret ?_))
   simp only [zs, simprocAttr, qLoad, tt, cut, List.drop_zero, List.take_succ_cons, List.take_zero, e2, fzV, fz1, St.fz_t, St.fz_l, Option.map_some, List.map]
def allEq {α : Type} (f : α → α → Bool) : List α → List α → Bool
  | [], [] => true
  | a :: l, b :: m => f a b && allEq f l m
  | _, _ => false
theorem allEq_len {α : Type} {f : α → α → Bool} : ∀ {l m : List α}, l.length ≠ m.length → allEq f l m = false
 | [], [], h => absurd rfl h
 | a :: l, b :: m, h => by simp [allEq, allEq_len (f := f) (l := l) (m := m) (by simpa using h)]
 | [], _ :: _, _ => rfl
 | _ :: _, [], _ => rfl
def eqAttr (a b : Attr) : Bool := a.name.toList == b.name.toList && (a.v.kind == b.v.kind && (a.v.n == b.v.n && a.v.s.toList == b.v.s.toList))
theorem rsame_attrs (l r : List Attr) (hl : l.length < 4611686018427387904) : PCalls Tryz.prog 94 [.sl (l.map encAttr), .sl (r.map encAttr)] (fun v => v = .c (.bool (allEq eqAttr l r))) := by
 refine PCalls.intro Tryz.call94 Tryz.func94 rfl Tryz.ntmps94 Tryz.results94 (by simp) ?_
 refine AW.sr trivial ?_
 refine AW.seq_k fun K2 h2 => ?_
 refine AW.sr trivial ?_
 refine AW.cd (((l.length : Int) != r.length)) (fun hc => ?_) (fun hc => ?_)
 ·refine AW.sr trivial ?_
  refine AW.ret ?_
  simp only [zs, simprocAttr]
  rw [allEq_len (by simp at hc; omega)]
 ·refine AW.skip ?_
  simp only [zs, simprocAttr]
  all_goals apply_assumption
  have hlr : l.length = r.length := by simp at hc; omega
  refine AW.seq_k fun K5 h5 => ?_
  refine AW.sr trivial ?_
  refine AW.block ?_   -- 0
  refine AW.loop (fun m s σ => σ = Hp.empty ∧ ∃ i : Nat, m + i = l.length ∧ s.t 0 = .sl (l.map encAttr) ∧ s.t 1 = .sl (r.map encAttr) ∧ s.t 5 = .c (.int .i64 i) ∧ allEq eqAttr l r = allEq eqAttr (l.drop i) (r.drop i)) l.length ?_ ?_
  ·refine ⟨rfl, 0, by simp, ?_⟩
   simp only [zs, simprocAttr]
   simp
  rintro m s σ ⟨rfl, i, hm, e0, e1, e5, hp⟩
  refine AW.seq_k fun K7 h7 => ?_
  all_goals refine AW.sr (J2 e5 e0) ?_
  refine AW.cd (decide (i < l.length)) (fun hc => ?_) (fun hc => ?_)
  ·refine AW.skip ?_
   simp only [zs, simprocAttr]
   all_goals apply_assumption
   have hi : i < l.length := by simpa using hc
   have hj : i < r.length := by omega
   have hg := getD_map (f := encAttr) hi
   have hg2 := getD_map (f := encAttr) hj
   have hd : l.drop i = l[i] :: l.drop (i + 1) := List.drop_eq_getElem_cons hi
   have hd2 : r.drop i = r[i] :: r.drop (i + 1) := List.drop_eq_getElem_cons hj
   generalize ha : l[i] = a at hg hd
   generalize hb : r[i] = b at hg2 hd2
   rw [hd, hd2, allEq] at hp
   have hw : IntKind.i64.wrap ((i : Int) + 1) = ((i + 1 : Nat) : Int) := by rw [wrap_small _ (by omega) (by omega)]; rfl
   refine AW.seq_k fun K9 h9 => ?_
   refine AW.block ?_   -- 1
   refine AW.seq_k fun K10 h10 => ?_
   refine AW.dv { sd := fun _ => false, eqk := eqTab } [(0,0),(1,0),(2,0),(4,0),(5,0),(6,0),(3,1),(7,1),(8,0)] ?_ eqTab_ok
   have q1q := J8 e0 e1 e5 hi hj hg hg2 @encAttr.eq_1
   iterate 6 refine D.one q1q ?_
   iterate 2 refine D.one q1q ?_
   refine D.one (J12 @eqk119 @fitsAll.eq_1 @fitsAll.eq_2 @fitsAll.eq_3 @SK.fits.eq_1 @SK.fits.eq_2 @SK.fits.eq_3 @SK.fits.eq_4 @cellsEq.eq_1 @cellsEq.eq_2 @cellsEq.eq_3 (J12 @cellEq.eq_1 @cellEq.eq_2 @cellEq.eq_3 @cellEq.eq_4 e0 e1 e5 hi hj hg hg2 @encAttr.eq_1)) ?_
   (refine D.nil ?_; apply_assumption)
   refine AW.cond (b := !eqAttr a b) (by simp only [ev, St.put_t, Nat.reduceEqDiff, if_true]; rfl) (fun hc => ?_) (fun hc => ?_)
   ·refine AW.sr trivial ?_
    refine AW.ret ?_
    simp only [zs, simprocAttr]
    have hx : eqAttr a b = false := by simpa using hc
    simp [hp, hx]
   ·refine AW.skip ?_
    simp only [zs, simprocAttr]
    all_goals apply_assumption
    have hx : eqAttr a b = true := by simpa using hc
    refine AW.reg0 (S.rn (J2 e5 hw) ?_)
    simp only [ze, simprocAttr, e5, hw]
    refine ⟨m - 1, by omega, i + 1, by omega, e0, e1, rfl, ?_⟩
    rw [hp, hx, Bool.true_and]
  ·refine AW.exit ?_
   simp only [zs, simprocAttr]
   -- EXIT 0
   all_goals apply_assumption
   refine AW.sr trivial ?_
   refine AW.ret ?_
   simp only [zs, simprocAttr]
   have hi : l.length ≤ i := by simpa using hc
   simp [hp, List.drop_of_length_le hi, List.drop_of_length_le (hlr ▸ hi), allEq]
def encS (s : ByteArray) : List V := [.c (.string s)]
def eqS (a b : ByteArray) : Bool := a.toList == b.toList
def hasS (l : List ByteArray) (s : ByteArray) : Bool := l.any (eqS · s)
theorem eqS_symm (a b : ByteArray) : eqS a b = eqS b a := by
 rw [Bool.eq_iff_iff, eqS, eqS, beq_iff_eq, beq_iff_eq]; exact ⟨Eq.symm, Eq.symm⟩
theorem eqS_iff {a b : ByteArray} : eqS a b = true ↔ a = b := by
 rw [eqS, beq_iff_eq, ByteArray.toList_eq, ByteArray.toList_eq]
 refine ⟨fun h => ?_, fun h => by rw [h]⟩
 cases a; cases b
 exact congrArg _ (Array.toList_inj.1 h)
theorem hasS_iff {l : List ByteArray} {s : ByteArray} : hasS l s = true ↔ s ∈ l := by
 simp only [hasS, List.any_eq_true, eqS_iff]
 exact ⟨fun ⟨x, h, e⟩ => e ▸ h, fun h => ⟨s, h, rfl⟩⟩
def idxS (s : ByteArray) : Nat → List ByteArray → Int
  | _, [] => -1
  | i, x :: l => if eqS x s then (i : Int) else idxS s (i + 1) l
theorem hasS_cons (x : ByteArray) (r : List ByteArray) (s : ByteArray) : hasS (x :: r) s = (x.toList == s.toList || hasS r s) := rfl
theorem idxS_has (s : ByteArray) : ∀ (l : List ByteArray) (i : Nat), decide (idxS s i l ≥ 0) = hasS l s
  | [], i => rfl
  | x :: l, i => by
    have ih := idxS_has s l (i + 1)
    rw [hasS_cons, idxS]
    by_cases h : eqS x s = true
    · rw [if_pos h]
      have h' : (x.toList == s.toList) = true := h
      rw [h', Bool.true_or]; simp
    · rw [if_neg h]
      have h' : (x.toList == s.toList) = false := by simpa [eqS] using h
      rw [h', Bool.false_or]; exact ih
theorem str_get {l : List ByteArray} {i : Nat} (h : i < l.length) : ∃ x, l[i]? = some x ∧ (l.map encS).getD i [] = [.c (.string x)] ∧ l.drop i = x :: l.drop (i + 1) := ⟨l[i], List.getElem?_eq_getElem h, getD_map h, List.drop_eq_getElem_cons h⟩
theorem indexS_spec (l : List ByteArray) (str : ByteArray) (hl : l.length < 4611686018427387904) : PCalls Tryz.prog 149 [.sl (l.map encS), .c (.string str)] (fun v => v = .c (.int .i64 (idxS str 0 l))) := by
 refine PCalls.intro Tryz.call149 Tryz.func149 rfl Tryz.ntmps149 Tryz.results149 (by simp) ?_
 refine AW.sr trivial ?_
 refine AW.seq_k fun K2 h2 => ?_
 refine AW.sr @List.length_map.{0,0} ?_
 refine AW.block ?_   -- 0
 refine AW.loop (fun m s σ => σ = Hp.empty ∧ ∃ i : Nat, m + i = l.length ∧ s.t 0 = .sl (l.map encS) ∧ s.t 1 = .c (.string str) ∧ s.t 7 = .c (.int .i64 (l.length : Nat)) ∧ s.t 8 = .c (.int .i64 (i : Nat)) ∧ idxS str 0 l = idxS str i (l.drop i)) l.length ?_ ?_
 ·refine ⟨rfl, 0, by simp, ?_⟩
  simp only [zs, simprocAttr]
  all_goals ((try and_intros) <;> first | rfl | assumption | (simp))
 rintro m s σ ⟨rfl, i, hm, e0, e1, e7, e8, hp⟩
 refine AW.sr (J2 e7 e8) ?_
 refine AW.seq_k fun K5 h5 => ?_
 refine AW.cd (decide (i < l.length)) (fun hc => ?_) (fun hc => ?_)
 ·have hi := of_decide_eq_true hc
  obtain ⟨x, hx, hg, hd⟩ := str_get hi
  have hw := wadd1 (a := i) (by omega)
  rw [hd, idxS, eqS_symm, eqS] at hp
  refine AW.skip ?_
  simp only [zs, simprocAttr]
  all_goals apply_assumption
  refine AW.seq_k fun K6 h6 => ?_
  refine AW.block ?_   -- 1
  refine AW.sr e8 ?_
  refine AW.sr (J5 e0 e1 hi hg @List.length_map.{0,0}) ?_
  refine AW.cd (str.toList == x.toList) (fun hc2 => ?_) (fun hc2 => ?_)
  ·refine AW.sr trivial ?_
   refine AW.ret ?_
   simp only [zs, simprocAttr]
   rw [hp, if_pos hc2]
  ·refine AW.skip ?_
   simp only [zs, simprocAttr]
   all_goals apply_assumption
   rw [hc2] at hp
   have q1q := J5 e8 hw e0 e1 e7
   refine AW.reg0 (S.rn q1q ?_)
   simp only [ze, simprocAttr, q1q]
   refine ⟨m - 1, by omega, i + 1, by omega, ?_⟩
   all_goals ((try and_intros) <;> first | rfl | assumption | (simpa using hp))
 ·have hi := of_decide_eq_false hc
  refine AW.exit ?_
  simp only [zs, simprocAttr]
  all_goals apply_assumption
  rw [List.drop_of_length_le (by omega), idxS] at hp
  refine AW.sr trivial ?_
  refine AW.ret ?_
  simp only [zs, simprocAttr]
  rw [hp]
theorem containsS_spec (l : List ByteArray) (str : ByteArray) (hl : l.length < 4611686018427387904) : PCalls Tryz.prog 120 [.sl (l.map encS), .c (.string str)] (fun v => v = .c (.bool (hasS l str))) := by
 have hh := idxS_has str l 0
 refine PCalls.intro Tryz.call120 Tryz.func120 rfl Tryz.ntmps120 Tryz.results120 (by simp) ?_
 refine AW.sr trivial ?_
 refine AW.seq_k fun K2 h2 => ?_
 refine AW.reg0 ?_
 iterate 2 refine S.one hh ?_
 refine S.cl hh (indexS_spec _ _ hl) ?_
 iterate 2 refine S.one hh ?_
 (refine S.nil ?_; simp only [ze, simprocAttr, hh]; apply_assumption)
 refine AW.ret ?_
 simp only [zs, simprocAttr]
theorem rhasS_spec (l : List ByteArray) (str : ByteArray) (hl : l.length < 4611686018427387904) : PCalls Tryz.prog 74 [.sl (l.map encS), .c (.string str)] (fun v => v = .c (.bool (hasS l str))) := by
 refine PCalls.intro Tryz.call74 Tryz.func74 rfl Tryz.ntmps74 Tryz.results74 (by simp) ?_
 refine AW.sr trivial ?_
 refine AW.seq_k fun K2 h2 => ?_
 refine AW.sr trivial ?_
 refine AW.block ?_   -- 0
 refine AW.loop (fun m s σ => σ = Hp.empty ∧ ∃ i : Nat, m + i = l.length ∧ s.t 0 = .sl (l.map encS) ∧ s.t 1 = .c (.string str) ∧ s.t 5 = .c (.int .i64 (i : Nat)) ∧ hasS l str = hasS (l.drop i) str) l.length ?_ ?_
 ·refine ⟨rfl, 0, by simp, ?_⟩
  simp only [zs, simprocAttr]
  all_goals ((try and_intros) <;> first | rfl | assumption | (simp))
 rintro m s σ ⟨rfl, i, hm, e0, e1, e5, hp⟩
 refine AW.seq_k fun K4 h4 => ?_
 refine AW.sr (J3 e0 e5 @List.length_map.{0,0}) ?_
 refine AW.cd (decide (i < l.length)) (fun hc => ?_) (fun hc => ?_)
 ·have hi := of_decide_eq_true hc
  obtain ⟨x, hx, hg, hd⟩ := str_get hi
  have hw := wadd1 (a := i) (by omega)
  rw [hd, hasS_cons] at hp
  refine AW.skip ?_
  simp only [zs, simprocAttr]
  all_goals apply_assumption
  refine AW.seq_k fun K6 h6 => ?_
  refine AW.block ?_   -- 1
  refine AW.sr (J6 e0 e1 e5 hi hg @List.length_map.{0,0}) ?_
  refine AW.cd (x.toList == str.toList) (fun hc2 => ?_) (fun hc2 => ?_)
  ·refine AW.sr trivial ?_
   refine AW.ret ?_
   simp only [zs, simprocAttr]
   rw [hc2, Bool.true_or] at hp
   all_goals ((try and_intros) <;> first | rfl | assumption | (rw [hp]))
  ·refine AW.skip ?_
   simp only [zs, simprocAttr]
   all_goals apply_assumption
   rw [hc2, Bool.false_or] at hp
   have q1q := J4 e0 e1 e5 hw
   refine AW.reg0 (S.rn q1q ?_)
   simp only [ze, simprocAttr, q1q]
   refine ⟨m - 1, by omega, i + 1, by omega, ?_⟩
   all_goals ((try and_intros) <;> first | rfl | assumption | (exact hp))
 ·have hi := of_decide_eq_false hc
  refine AW.exit ?_
  simp only [zs, simprocAttr]
  all_goals apply_assumption
  rw [List.drop_of_length_le (by omega)] at hp
  refine AW.sr trivial ?_
  refine AW.ret ?_
  simp only [zs, simprocAttr]
  rw [hp]; rfl
def valNone (v : Val) : Bool := decide (v.kind = 0 ∧ v.n = 0 ∧ v.s.size = 0)
def opdVar (vars : List ByteArray) (o : Opd) : Bool := if vars.length = 0 then decide (o.var.size = 0) else hasS vars o.var
def opdOk (vars : List ByteArray) (o : Opd) : Bool :=
  if o.attr.size = 0 then decide (o.var.size = 0) && valOk o.v else valNone o.v && isName o.attr && opdVar vars o
def cndBad (vars : List ByteArray) (c : Cnd) : Bool :=
  decide (c.rel < 1 ∨ c.rel > 6) || !opdOk vars c.l || !opdOk vars c.r || (decide (c.l.attr.size = 0) && decide (c.r.attr.size = 0))
structure okO (o : Opd) : Prop where
  attr : o.attr.size < 4611686018427387904
structure okC (c : Cnd) : Prop where
  l : okO c.l
  r : okO c.r
theorem operand_spec (o : Opd) (vars : List ByteArray) (ho : okO o) (hv : vars.length < 4611686018427387904) : PCalls Tryz.prog 145 [.agg (encO o), .sl (vars.map encS)] (fun v => v = .c (.bool (opdOk vars o))) := by
 refine PCalls.intro Tryz.call145 Tryz.func145 rfl Tryz.ntmps145 Tryz.results145 (by simp) ?_
 refine AW.sr @encO.eq_1 ?_
 refine AW.seq_k fun K2 h2 => ?_
 refine AW.sr trivial ?_
 refine AW.cd (decide (o.attr.size = 0)) (fun hc => ?_) (fun hc => ?_)
 ·have hc := of_decide_eq_true hc
  refine AW.seq_j (fun s' σ' => σ' = Hp.empty ∧ s'.t 4 = .c (.bool (decide (o.var.size = 0) && valOk o.v))) ?_ ?_
  ·skip
   refine AW.reg0 ?_
   iterate 2 refine S.one trivial ?_
   (refine S.sp trivial fun b a10 => ?_; cases b <;> (try exact nope a10))
   all_goals iterate 3 refine S.one trivial ?_
   all_goals (first | (refine S.cl trivial (check_val o.v) ?_) | refine S.one trivial ?_)
   all_goals iterate 3 refine S.one trivial ?_
   all_goals refine S.nil ?_
   all_goals simp only [ze, simprocAttr]
   all_goals (cases h : valOk o.v <;> simp_all [valErr])
  rintro s σ ⟨rfl, e4⟩
  refine AW.ret ?_
  all_goals simp only [zs, simprocAttr, e4]
  all_goals ((try and_intros) <;> first | rfl | assumption | (simp [opdOk, hc]))
 ·have hc := of_decide_eq_false hc
  refine AW.skip ?_
  simp only [zs, simprocAttr]
  all_goals apply_assumption
  refine AW.seq_k fun K4 h4 => ?_
  refine AW.seq_j (fun s' σ' => σ' = Hp.empty ∧ s'.t 2 = .lp 2 0 ∧ s'.l 2 = some (encO o) ∧ s'.t 1 = .sl (vars.map encS) ∧ s'.t 26 = .c (.bool (!(valNone o.v && isName o.attr)))) ?_ ?_
  ·skip
   refine AW.region (T := { eqk := eqTab }) (eqTab_ok) rfl ?_
   iterate 3 refine S.one trivial ?_
   (refine S.sp (J12 @eqk104 @fitsAll.eq_1 @fitsAll.eq_2 @fitsAll.eq_3 @SK.fits.eq_1 @SK.fits.eq_2 @SK.fits.eq_3 @SK.fits.eq_4 @cellsEq.eq_1 @cellsEq.eq_2 @cellsEq.eq_3 (J4 @cellEq.eq_1 @cellEq.eq_2 @cellEq.eq_3 @cellEq.eq_4)) fun b a20 => ?_; cases b <;> (try exact nope a20))
   all_goals iterate 3 refine S.one trivial ?_
   all_goals (first | (refine S.cl trivial (name_spec _ ho.attr) ?_) | refine S.one trivial ?_)
   all_goals iterate 2 refine S.one trivial ?_
   all_goals refine S.nil ?_
   all_goals simp only [ze, simprocAttr]
   all_goals simp_all [valNone, encO]
  rintro s σ ⟨rfl, e2, l2, e1, e26⟩
  refine AW.cond (b := !(valNone o.v && isName o.attr)) e26 (fun hb => ?_) (fun hb => ?_)
  ·refine AW.sr trivial ?_
   refine AW.ret ?_
   simp only [zs, simprocAttr]
   all_goals ((try and_intros) <;> first | rfl | assumption | ((cases h1 : valNone o.v <;> cases h2 : isName o.attr <;> simp_all [opdOk])))
  refine AW.skip ?_
  all_goals simp only [zs, simprocAttr]
  all_goals apply_assumption
  refine AW.seq_k fun K6 h6 => ?_
  all_goals refine AW.sr (J2 e1 @List.length_map.{0,0}) ?_
  refine AW.cd (((vars.length : Int) == 0)) (fun hn => ?_) (fun hn => ?_)
  ·have hn : vars.length = 0 := by simpa using hn
   refine AW.sr (J3 e2 l2 @encO.eq_1) ?_
   refine AW.ret ?_
   simp only [zs, simprocAttr]
   all_goals ((try and_intros) <;> first | rfl | assumption | (simp_all [opdOk, opdVar]))
  ·have hn : ¬ vars.length = 0 := by simpa using hn
   refine AW.skip ?_
   simp only [zs, simprocAttr]
   all_goals apply_assumption
   refine AW.seq_k fun K9 h9 => ?_
   refine AW.reg0 ?_
   iterate 3 refine S.one (J4 e1 e2 l2 @encO.eq_1) ?_
   have q1q := J4 e1 e2 l2 @encO.eq_1
   refine S.cl q1q (containsS_spec _ _ hv) ?_
   all_goals refine S.one q1q ?_
   all_goals (refine S.nil ?_; simp only [ze, simprocAttr, q1q]; apply_assumption)
   refine AW.ret ?_
   all_goals simp only [zs, simprocAttr]
   all_goals ((try and_intros) <;> first | rfl | assumption | (simp_all [opdOk, opdVar]))
theorem Cond_spec (c : Cnd) (vars : List ByteArray) (hc : okC c) (hv : vars.length < 4611686018427387904) : PCalls Tryz.prog 113 [.agg (encC c), .sl (vars.map encS)] (fun v => v = .c (.int .i64 (if cndBad vars c then 74 else 0))) := by
 have hl := hc.l
 have hr := hc.r
 refine PCalls.intro Tryz.call113 Tryz.func113 rfl Tryz.ntmps113 Tryz.results113 (by simp) ?_
 refine AW.sr (J2 @encC.eq_1 @encO.eq_1) ?_
 refine AW.seq_k fun K2 h2 => ?_
 refine AW.seq_j (fun s' σ' => σ' = Hp.empty ∧ s'.t 38 = .c (.bool (cndBad vars c))) ?_ ?_
 ·skip
  refine AW.reg0 ?_
  iterate 2 refine S.one trivial ?_
  (refine S.sp trivial fun b a7 => ?_; cases b <;> (try exact nope a7))
  all_goals iterate 3 refine S.one trivial ?_
  all_goals (first | (refine S.sp trivial fun b a11 => ?_; cases b <;> (try exact nope a11)) | refine S.one trivial ?_)
  all_goals iterate 5 refine S.one trivial ?_
  all_goals (first | (refine S.y rfl rfl rfl rfl fun Y Z => ?_; simp only [zz, simprocAttr]; refine PCalls.eqto (operand_spec _ _ (by assumption) hv) ?_; refine S.bool fun b a17 => ?_; cases b <;> (try exact nope a17) <;> (refine Z _ _ ?_; clear Z Y)) | refine S.one trivial ?_)
  all_goals iterate 6 refine S.one trivial ?_
  all_goals (first | (refine S.y rfl rfl rfl rfl fun Y Z => ?_; simp only [zz, simprocAttr]; refine PCalls.eqto (operand_spec _ _ (by assumption) hv) ?_; refine S.bool fun b a24 => ?_; cases b <;> (try exact nope a24) <;> (refine Z _ _ ?_; clear Z Y)) | refine S.one trivial ?_)
  all_goals iterate 6 refine S.one trivial ?_
  all_goals (first | (refine S.sp trivial fun b a31 => ?_; cases b <;> (try exact nope a31)) | refine S.one trivial ?_)
  all_goals iterate 7 refine S.one trivial ?_
  all_goals refine S.nil ?_
  all_goals simp only [ze, simprocAttr]
  all_goals simp_all [cndBad]
  all_goals omega
 rintro s σ ⟨rfl, e38⟩
 refine AW.cond (b := cndBad vars c) e38 (fun hb => ?_) (fun hb => ?_)
 ·refine AW.sr trivial ?_
  refine AW.ret ?_
  simp only [zs, simprocAttr]
  all_goals ((try and_intros) <;> first | rfl | assumption | (simp_all))
 ·refine AW.skip ?_
  simp only [zs, simprocAttr]
  all_goals apply_assumption
  refine AW.sr trivial ?_
  refine AW.ret ?_
  simp only [zs, simprocAttr]
  all_goals ((try and_intros) <;> first | rfl | assumption | (simp_all))
theorem roperand_spec (o : Opd) (vars : List ByteArray) (ho : okO o) (hv : vars.length < 4611686018427387904) : PCalls Tryz.prog 116 [.agg (encO o), .sl (vars.map encS)] (fun v => v = .c (.bool (opdOk vars o))) := by
 refine PCalls.intro Tryz.call116 Tryz.func116 rfl Tryz.ntmps116 Tryz.results116 (by simp) ?_
 refine AW.sr @encO.eq_1 ?_
 refine AW.seq_k fun K2 h2 => ?_
 refine AW.sr trivial ?_
 refine AW.cd (decide (o.attr.size = 0)) (fun hc => ?_) (fun hc => ?_)
 ·have hc := of_decide_eq_true hc
  refine AW.seq_j (fun s' σ' => σ' = Hp.empty ∧ s'.t 4 = .c (.bool (decide (o.var.size = 0) && valOk o.v))) ?_ ?_
  ·skip
   refine AW.reg0 ?_
   iterate 2 refine S.one trivial ?_
   (refine S.sp trivial fun b a11 => ?_; cases b <;> (try exact nope a11))
   all_goals iterate 3 refine S.one trivial ?_
   all_goals (first | (refine S.cl trivial (rcheck_val o.v) ?_) | refine S.one trivial ?_)
   all_goals iterate 3 refine S.one trivial ?_
   all_goals refine S.nil ?_
   all_goals simp only [ze, simprocAttr]
   all_goals (cases h : valOk o.v <;> simp_all [valErr])
  rintro s σ ⟨rfl, e4⟩
  refine AW.ret ?_
  all_goals simp only [zs, simprocAttr, e4]
  all_goals ((try and_intros) <;> first | rfl | assumption | (simp [opdOk, hc]))
 ·have hc := of_decide_eq_false hc
  refine AW.skip ?_
  simp only [zs, simprocAttr]
  all_goals apply_assumption
  refine AW.sr trivial ?_
  refine AW.seq_j (fun s' σ' => σ' = Hp.empty ∧ s'.t 2 = .lp 2 0 ∧ s'.l 2 = some (encO o) ∧ s'.t 5 = .c (.bool (opdVar vars o))) ?_ ?_
  ·refine AW.sr @List.length_map.{0,0} ?_
   refine AW.cd (decide ((vars.length : Int) > 0)) (fun hn => ?_) (fun hn => ?_)
   ·have hn : ¬ vars.length = 0 := by have := of_decide_eq_true hn; omega
    refine AW.reg0 ?_
    iterate 3 refine S.one trivial ?_
    refine S.cl trivial (rhasS_spec _ _ hv) ?_
    all_goals refine S.one trivial ?_
    all_goals refine S.nil ?_
    all_goals simp only [ze, simprocAttr]
    all_goals simp_all [opdVar, encO]
   ·have hn : vars.length = 0 := by have := of_decide_eq_false hn; omega
    refine AW.skip ?_
    simp only [zs, simprocAttr]
    all_goals ((try and_intros) <;> first | rfl | assumption | (simp_all [opdVar, encO]))
  rintro s σ ⟨rfl, e2, l2, e5⟩
  refine AW.seq_j (fun s' σ' => σ' = Hp.empty ∧ s'.t 4 = .c (.bool (opdOk vars o))) ?_ ?_
  ·cases hov : opdVar vars o <;> rw [hov] at e5
   all_goals refine AW.region (T := { eqk := eqTab }) (eqTab_ok) rfl ?_
   all_goals have q1q := J4 e2 l2 e5 @encO.eq_1
   all_goals iterate 5 refine S.one q1q ?_
   all_goals (first | (refine S.sp (J12 @eqk104 @fitsAll.eq_1 @fitsAll.eq_2 @fitsAll.eq_3 @SK.fits.eq_1 @SK.fits.eq_2 @SK.fits.eq_3 @SK.fits.eq_4 @cellsEq.eq_1 @cellsEq.eq_2 @cellsEq.eq_3 (J8 @cellEq.eq_1 @cellEq.eq_2 @cellEq.eq_3 @cellEq.eq_4 e2 l2 e5 @encO.eq_1)) fun b a33 => ?_; cases b <;> (try exact nope a33)) | refine S.one trivial ?_)
   all_goals iterate 4 refine S.one q1q ?_
   all_goals have q2q := J4 e2 l2 e5 @encO.eq_1
   all_goals (first | (refine S.cl q2q (rname_spec _ ho.attr) ?_) | refine S.one trivial ?_)
   all_goals iterate 2 refine S.one q2q ?_
   all_goals refine S.nil ?_
   all_goals simp only [ze, simprocAttr, q2q]
   all_goals simp_all [opdOk, valNone, encO]
  rintro s σ ⟨rfl, e4⟩
  refine AW.ret ?_
  all_goals simp only [zs, simprocAttr, e4]
  all_goals exact fn1
theorem rCond_spec (c : Cnd) (vars : List ByteArray) (hc : okC c) (hv : vars.length < 4611686018427387904) : PCalls Tryz.prog 83 [.agg (encC c), .sl (vars.map encS)] (fun v => v = .c (.int .i64 (if cndBad vars c then 74 else 0))) := by
 have hl := hc.l
 have hr := hc.r
 refine PCalls.intro Tryz.call83 Tryz.func83 rfl Tryz.ntmps83 Tryz.results83 (by simp) ?_
 refine AW.sr (J2 @encC.eq_1 @encO.eq_1) ?_
 refine AW.seq_k fun K2 h2 => ?_
 refine AW.seq_j (fun s' σ' => σ' = Hp.empty ∧ s'.t 38 = .c (.bool (cndBad vars c))) ?_ ?_
 ·skip
  refine AW.reg0 ?_
  iterate 2 refine S.one trivial ?_
  (refine S.sp trivial fun b a7 => ?_; cases b <;> (try exact nope a7))
  all_goals iterate 3 refine S.one trivial ?_
  all_goals (first | (refine S.sp trivial fun b a11 => ?_; cases b <;> (try exact nope a11)) | refine S.one trivial ?_)
  all_goals iterate 5 refine S.one trivial ?_
  all_goals (first | (refine S.y rfl rfl rfl rfl fun Y Z => ?_; simp only [zz, simprocAttr]; refine PCalls.eqto (roperand_spec _ _ (by assumption) hv) ?_; refine S.bool fun b a17 => ?_; cases b <;> (try exact nope a17) <;> (refine Z _ _ ?_; clear Z Y)) | refine S.one trivial ?_)
  all_goals iterate 6 refine S.one trivial ?_
  all_goals (first | (refine S.y rfl rfl rfl rfl fun Y Z => ?_; simp only [zz, simprocAttr]; refine PCalls.eqto (roperand_spec _ _ (by assumption) hv) ?_; refine S.bool fun b a24 => ?_; cases b <;> (try exact nope a24) <;> (refine Z _ _ ?_; clear Z Y)) | refine S.one trivial ?_)
  all_goals iterate 6 refine S.one trivial ?_
  all_goals (first | (refine S.sp trivial fun b a31 => ?_; cases b <;> (try exact nope a31)) | refine S.one trivial ?_)
  all_goals iterate 7 refine S.one trivial ?_
  all_goals refine S.nil ?_
  all_goals simp only [ze, simprocAttr]
  all_goals simp_all [cndBad]
  all_goals omega
 rintro s σ ⟨rfl, e38⟩
 refine AW.cond (b := cndBad vars c) e38 (fun hb => ?_) (fun hb => ?_)
 ·refine AW.sr trivial ?_
  refine AW.ret ?_
  simp only [zs, simprocAttr]
  all_goals ((try and_intros) <;> first | rfl | assumption | (simp_all))
 ·refine AW.skip ?_
  simp only [zs, simprocAttr]
  all_goals apply_assumption
  refine AW.sr trivial ?_
  refine AW.ret ?_
  simp only [zs, simprocAttr]
  all_goals ((try and_intros) <;> first | rfl | assumption | (simp_all))
def cndsBad (vars : List ByteArray) (l : List Cnd) : Bool := l.any (cndBad vars)
def cndsErr (vars : List ByteArray) (l : List Cnd) : Int := if decide (16 < l.length) || cndsBad vars l then 74 else 0
theorem cndsBad_cons (vars : List ByteArray) (c : Cnd) (l : List Cnd) : cndsBad vars (c :: l) = (cndBad vars c || cndsBad vars l) := rfl
theorem cnd_get {l : List Cnd} {i : Nat} (h : i < l.length) : ∃ x, l[i]? = some x ∧ x ∈ l ∧ (l.map encC).getD i [] = encC x ∧ l.drop i = x :: l.drop (i + 1) := ⟨l[i], List.getElem?_eq_getElem h, List.getElem_mem h, getD_map h, List.drop_eq_getElem_cons h⟩
theorem encC_take (c : Cnd) : (encC c).take 11 = encC c := rfl
theorem encC_drop (c : Cnd) : (encC c).drop 11 = [] := rfl
theorem encC_wk (c : Cnd) : (encC c).map wk1 = encC c := rfl
theorem cd : (∀ n : Cnd, (encC n).length = 11) ∧ (∀ n : Cnd, (encC n).take 11 = encC n) ∧ (∀ n : Cnd, (encC n).drop 11 = []) ∧ (∀ n : Cnd, (encC n).map wk1 = encC n) := ⟨encC_len, encC_take, encC_drop, encC_wk⟩
theorem conds_spec (l : List Cnd) (vars : List ByteArray) (hl : ∀ c ∈ l, okC c) (hll : l.length < 4611686018427387904) (hv : vars.length < 4611686018427387904) : PCalls Tryz.prog 81 [.sl (l.map encC), .sl (vars.map encS)] (fun v => v = .c (.int .i64 (cndsErr vars l))) := by
 refine PCalls.intro Tryz.call81 Tryz.func81 rfl Tryz.ntmps81 Tryz.results81 (by simp) ?_
 refine AW.sr trivial ?_
 refine AW.seq_k fun K2 h2 => ?_
 refine AW.sr @List.length_map.{0,0} ?_
 refine AW.cd (decide ((l.length : Int) > 16)) (fun hc => ?_) (fun hc => ?_)
 ·have hc : 16 < l.length := by have := of_decide_eq_true hc; omega
  refine AW.sr trivial ?_
  refine AW.ret ?_
  simp only [zs, simprocAttr]
  all_goals ((try and_intros) <;> first | rfl | assumption | (simp [cndsErr, hc]))
 have hc : ¬ 16 < l.length := by have := of_decide_eq_false hc; omega
 refine AW.skip ?_
 simp only [zs, simprocAttr]
 all_goals apply_assumption
 refine AW.seq_k fun K5 h5 => ?_
 refine AW.sr @List.length_map.{0,0} ?_
 refine AW.block ?_   -- 0
 refine AW.loop (fun m s σ => σ = Hp.empty ∧ ∃ i : Nat, m + i = l.length ∧ s.t 11 = .sl (l.map encC) ∧ s.t 12 = .c (.int .i64 (l.length : Nat)) ∧ s.t 13 = .c (.int .i64 (i : Nat)) ∧ s.t 1 = .sl (vars.map encS) ∧ cndsBad vars l = cndsBad vars (l.drop i)) l.length ?_ ?_
 ·refine ⟨rfl, 0, by simp, ?_⟩
  simp only [zs, simprocAttr]
  all_goals ((try and_intros) <;> first | rfl | assumption | (simp))
 rintro m s σ ⟨rfl, i, hm, e11, e12, e13, e1, hp⟩
 refine AW.sr (J2 e13 e12) ?_
 refine AW.seq_k fun K8 h8 => ?_
 refine AW.cd (decide (i < l.length)) (fun hi => ?_) (fun hi => ?_)
 ·have hi := of_decide_eq_true hi
  obtain ⟨x, hx, hxm, hg, hd⟩ := cnd_get hi
  have hw := wadd1 (a := i) (by omega)
  rw [hd, cndsBad_cons] at hp
  refine AW.skip ?_
  simp only [zs, simprocAttr]
  all_goals apply_assumption
  refine AW.seq_k fun K9 h9 => ?_
  refine AW.block ?_   -- 1
  refine AW.sr (J6 e11 e13 hi hg @cd @List.length_map.{0,0}) ?_
  refine AW.seq_k fun K11 h11 => ?_
  refine AW.reg0 ?_
  iterate 2 refine S.one (J2 e1 @cd) ?_
  refine S.cl (J2 e1 @cd) (Cond_spec x vars (hl x hxm) hv) ?_
  refine S.one (J2 e1 @cd) ?_
  (refine S.nil ?_; simp only [ze, simprocAttr, e1, cd]; apply_assumption)
  refine AW.sr trivial ?_
  refine AW.cond (b := cndBad vars x) (by cases h : cndBad vars x <;> simp [ev]) (fun hb => ?_) (fun hb => ?_)
  ·refine AW.sr trivial ?_
   refine AW.ret ?_
   simp only [zs, simprocAttr]
   all_goals ((try and_intros) <;> first | rfl | assumption | (simp [cndsErr, hp, hb]))
  ·refine AW.skip ?_
   simp only [zs, simprocAttr]
   all_goals apply_assumption
   rw [hb, Bool.false_or] at hp
   have q1q := J5 e13 hw e11 e12 e1
   refine AW.reg0 (S.rn q1q ?_)
   simp only [ze, simprocAttr, q1q]
   refine ⟨m - 1, by omega, i + 1, by omega, ?_⟩
   all_goals ((try and_intros) <;> first | rfl | assumption | (exact hp))
 ·have hi := of_decide_eq_false hi
  refine AW.exit ?_
  simp only [zs, simprocAttr]
  all_goals apply_assumption
  rw [List.drop_of_length_le (by omega)] at hp
  have hp : cndsBad vars l = false := hp
  refine AW.sr trivial ?_
  refine AW.ret ?_
  simp only [zs, simprocAttr]
  all_goals ((try and_intros) <;> first | rfl | assumption | (simp [cndsErr, hp, hc]))
def leafBad (n : Nd) : Bool := decide (n.kids.length > 0) || !isName n.var || !isName n.type
def joinBad (n : Nd) : Bool := decide (n.kids.length < 2) || decide (n.var.size ≠ 0) || decide (n.type.size ≠ 0) || decide (n.tests.length > 0)
def ndOwn (n : Nd) : Int := if n.kind = 1 then (if leafBad n then 71 else cndsErr [] n.tests) else if n.kind = 2 ∨ n.kind = 3 ∨ n.kind = 4 then (if joinBad n then 71 else 0) else 71
def firstErr : List Int → Int
  | [] => 0
  | e :: l => if e = 0 then firstErr l else e
def Nd.err (n : Nd) : Int := n.para fun n l => if ndOwn n = 0 then firstErr l else ndOwn n
theorem Nd.err_eq (n : Nd) : n.err = if ndOwn n = 0 then firstErr (n.kids.map Nd.err) else ndOwn n := Nd.para_eq _ n
structure Nd.okOwn (n : Nd) : Prop where
  var : n.var.size < 4611686018427387904
  type : n.type.size < 4611686018427387904
  len : n.tests.length < 4611686018427387904
  tests : ∀ c ∈ n.tests, okC c
def Nd.ok (n : Nd) : Prop := n.para fun n l => n.okOwn ∧ ∀ p ∈ l, p
theorem Nd.ok_eq (n : Nd) : n.ok = (n.okOwn ∧ ∀ p ∈ n.kids.map Nd.ok, p) := Nd.para_eq _ n
theorem Nd.ok.own {n : Nd} (h : n.ok) : n.okOwn := by rw [Nd.ok_eq] at h; exact h.1
theorem Nd.ok.kid {n x : Nd} (h : n.ok) (hx : x ∈ n.kids) : x.ok := by rw [Nd.ok_eq] at h; exact h.2 _ (List.mem_map_of_mem hx)
theorem node_spec : ∀ n : Nd, n.small → n.ok → PCalls Tryz.prog 61 [.agg (encNd n)] (fun v => v = .c (.int .i64 n.err)) := Nd.ind fun n ih hn ho => by
 have hl := hn.len
 have hv := ho.own.var
 have ht := ho.own.type
 have htl := ho.own.len
 have q1 : ((n.kids.length : Int) < 2) = (n.kids.length < 2) := by rw [eq_iff_iff]; omega
 have q2 : ((n.tests.length : Int) > 0) = (n.tests.length > 0) := by rw [eq_iff_iff]; omega
 have q3 : ((n.kids.length : Int) > 0) = (n.kids.length > 0) := by rw [eq_iff_iff]; omega
 have hts := ho.own.tests
 rw [encNd_eq]
 refine PCalls.intro Tryz.call61 Tryz.func61 rfl Tryz.ntmps61 Tryz.results61 (by simp) ?_
 refine AW.sr trivial ?_
 refine AW.seq_j (fun s' σ' => σ' = Hp.empty ∧ s'.t 1 = .lp 1 0 ∧ s'.l 1 = some [.c (.int .i64 n.kind), .c (.string n.var), .c (.string n.type), .sl (n.tests.map encC), .sl (n.kids.map encNd)] ∧ ndOwn n = 0) ?_ ?_
 ·refine AW.sr trivial ?_
  refine AW.block ?_   -- 0
  refine AW.sr trivial ?_
  refine AW.cd (n.kind == 1) (fun hk => ?_) (fun hk => ?_)
  ·have hk : n.kind = 1 := by simpa using hk
   refine AW.seq_k fun K4 h4 => ?_
   refine AW.seq_j (fun s' σ' => σ' = Hp.empty ∧ s'.t 1 = .lp 1 0 ∧ s'.l 1 = some [.c (.int .i64 n.kind), .c (.string n.var), .c (.string n.type), .sl (n.tests.map encC), .sl (n.kids.map encNd)] ∧ s'.t 26 = .c (.bool (leafBad n))) ?_ ?_
   ·skip
    refine AW.reg0 ?_
    have q1q := J2 q3 @List.length_map.{0,0}
    iterate 3 refine S.one q1q ?_
    (refine S.sp q1q fun b a14 => ?_; cases b <;> (try exact nope a14))
    all_goals iterate 3 refine S.one q1q ?_
    all_goals have q2q := J2 q3 @List.length_map.{0,0}
    all_goals (first | (refine S.y rfl rfl rfl rfl fun Y Z => ?_; simp only [zz, simprocAttr, q2q]; (first | refine PCalls.eqto (name_spec _ hv) ?_ | refine PCalls.eqto (name_spec _ ht) ?_); refine S.bool fun b a18 => ?_; cases b <;> (try exact nope a18) <;> (refine Z _ _ ?_; clear Z Y)) | refine S.one trivial ?_)
    all_goals iterate 5 refine S.one q2q ?_
    all_goals have q3q := J2 q3 @List.length_map.{0,0}
    all_goals (first | (refine S.y rfl rfl rfl rfl fun Y Z => ?_; simp only [zz, simprocAttr, q3q]; (first | refine PCalls.eqto (name_spec _ hv) ?_ | refine PCalls.eqto (name_spec _ ht) ?_) <;> (refine Z _ _ ?_; clear Z Y)) | refine S.one trivial ?_)
    all_goals iterate 2 refine S.one q3q ?_
    all_goals refine S.nil ?_
    all_goals simp only [ze, simprocAttr, q3q]
    all_goals simp_all [leafBad]
   rintro s σ ⟨rfl, e1, l1, e26⟩
   refine AW.cond (b := leafBad n) e26 (fun hb => ?_) (fun hb => ?_)
   ·refine AW.sr trivial ?_
    refine AW.ret ?_
    simp only [zs, simprocAttr]
    all_goals ((try and_intros) <;> first | rfl | assumption | (simp [Nd.err_eq, ndOwn, hk, hb]))
   refine AW.skip ?_
   all_goals simp only [zs, simprocAttr]
   all_goals apply_assumption
   refine AW.seq_k fun K6 h6 => ?_
   all_goals refine AW.reg0 ?_
   all_goals iterate 2 refine S.one (J3 e1 l1 @List.length_map.{0,0}) ?_
   all_goals have q4q := J3 e1 l1 @List.length_map.{0,0}
   all_goals refine S.cl q4q (conds_spec n.tests [] hts htl (by decide)) ?_
   all_goals refine S.one q4q ?_
   all_goals (refine S.nil ?_; simp only [ze, simprocAttr, q4q]; apply_assumption)
   all_goals refine AW.sr trivial ?_
   refine AW.cd (cndsErr [] n.tests != 0) (fun hc => ?_) (fun hc => ?_)
   ·refine AW.sr trivial ?_
    refine AW.ret ?_
    simp only [zs, simprocAttr]
    all_goals ((try and_intros) <;> first | rfl | assumption | (simp_all [Nd.err_eq, ndOwn]))
   ·refine AW.skip ?_
    simp only [zs, simprocAttr]
    all_goals ((try and_intros) <;> first | rfl | assumption | (simp_all [ndOwn]))
  ·have hk : ¬ n.kind = 1 := by simpa using hk
   refine AW.seq_j (fun s' σ' => σ' = Hp.empty ∧ s'.t 1 = .lp 1 0 ∧ s'.l 1 = some [.c (.int .i64 n.kind), .c (.string n.var), .c (.string n.type), .sl (n.tests.map encC), .sl (n.kids.map encNd)] ∧ s'.t 33 = .c (.bool (decide (n.kind = 2 ∨ n.kind = 3 ∨ n.kind = 4)))) ?_ ?_
   ·refine AW.sr trivial ?_
    refine AW.cd (n.kind == 2) (fun h2 => ?_) (fun h2 => ?_)
    ·refine AW.skip ?_
     simp only [zs, simprocAttr]
     all_goals ((try and_intros) <;> first | rfl | assumption | (simp_all))
    all_goals refine AW.sr trivial ?_
    refine AW.cd (n.kind == 3) (fun h3 => ?_) (fun h3 => ?_)
    ·refine AW.skip ?_
     simp only [zs, simprocAttr]
     all_goals ((try and_intros) <;> first | rfl | assumption | (simp_all))
    all_goals refine AW.reg0 (S.rn trivial ?_)
    all_goals simp only [ze, simprocAttr]
    all_goals simp_all
    all_goals (rw [Bool.eq_iff_iff]; simp)
   rintro s σ ⟨rfl, e1, l1, e33⟩
   refine AW.cond (b := decide (n.kind = 2 ∨ n.kind = 3 ∨ n.kind = 4)) e33 (fun h4 => ?_) (fun h4 => ?_)
   ·have h4 := of_decide_eq_true h4
    refine AW.seq_j (fun s' σ' => σ' = Hp.empty ∧ s'.t 1 = .lp 1 0 ∧ s'.l 1 = some [.c (.int .i64 n.kind), .c (.string n.var), .c (.string n.type), .sl (n.tests.map encC), .sl (n.kids.map encNd)] ∧ s'.t 56 = .c (.bool (joinBad n))) ?_ ?_
    ·skip
     refine AW.reg0 ?_
     have q5q := J5 e1 l1 q1 q2 @List.length_map.{0,0}
     iterate 3 refine S.one q5q ?_
     (refine S.sp q5q fun b a40 => ?_; cases b <;> (try exact nope a40))
     all_goals iterate 3 refine S.one q5q ?_
     all_goals (first | (refine S.sp q5q fun b a44 => ?_; cases b <;> (try exact nope a44)) | refine S.one trivial ?_)
     all_goals iterate 4 refine S.one q5q ?_
     all_goals (first | (refine S.sp q5q fun b a49 => ?_; cases b <;> (try exact nope a49)) | refine S.one trivial ?_)
     all_goals iterate 7 refine S.one q5q ?_
     all_goals refine S.nil ?_
     all_goals simp only [ze, simprocAttr, q5q]
     all_goals simp_all [joinBad]
     all_goals omega
    rintro s σ ⟨rfl, e1, l1, e56⟩
    refine AW.cond (b := joinBad n) e56 (fun hb => ?_) (fun hb => ?_)
    ·refine AW.sr trivial ?_
     refine AW.ret ?_
     simp only [zs, simprocAttr]
     all_goals ((try and_intros) <;> first | rfl | assumption | (simp [Nd.err_eq, ndOwn, hk, hb, h4]))
    ·refine AW.skip ?_
     simp only [zs, simprocAttr]
     all_goals ((try and_intros) <;> first | rfl | assumption | (simp [ndOwn, hk, hb, h4]))
   ·have h4 := of_decide_eq_false h4
    refine AW.sr trivial ?_
    refine AW.ret ?_
    simp only [zs, simprocAttr]
    all_goals ((try and_intros) <;> first | rfl | assumption | (simp [Nd.err_eq, ndOwn, hk, h4]))
 rintro s σ ⟨rfl, e1, l1, h0⟩
 have he : n.err = firstErr (n.kids.map Nd.err) := by rw [Nd.err_eq, if_pos h0]
 refine AW.seq_k fun K13 h13 => ?_
 all_goals refine AW.sr (J3 e1 l1 @List.length_map.{0,0}) ?_
 refine AW.block ?_   -- 1
 refine AW.loop (fun m s σ => σ = Hp.empty ∧ ∃ i : Nat, m + i = n.kids.length ∧ s.t 58 = .sl (n.kids.map encNd) ∧ s.t 59 = .c (.int .i64 (n.kids.length : Nat)) ∧ s.t 60 = .c (.int .i64 (i : Nat)) ∧ n.err = firstErr ((n.kids.drop i).map Nd.err)) n.kids.length ?_ ?_
 ·refine ⟨rfl, 0, by simp, ?_⟩
  simp only [zs, simprocAttr]
  all_goals ((try and_intros) <;> first | rfl | assumption | (simpa using he))
 rintro m s σ ⟨rfl, i, hm, e58, e59, e60, hp⟩
 all_goals refine AW.sr (J2 e60 e59) ?_
 refine AW.seq_k fun K16 h16 => ?_
 refine AW.cd (decide (i < n.kids.length)) (fun hi => ?_) (fun hi => ?_)
 ·have hi := of_decide_eq_true hi
  obtain ⟨x, hx, hxm, hg⟩ := kid_get hi
  have hd : n.kids.drop i = x :: n.kids.drop (i + 1) := by
   rw [List.drop_eq_getElem_cons hi]; congr 1; rw [List.getElem?_eq_getElem hi] at hx; exact Option.some.inj hx
  have hw := wadd1 (a := i) (by omega)
  rw [hd, List.map_cons, firstErr] at hp
  refine AW.skip ?_
  simp only [zs, simprocAttr]
  all_goals apply_assumption
  refine AW.seq_k fun K17 h17 => ?_
  refine AW.block ?_   -- 2
  refine AW.sr (J6 e58 e60 hi hg @nd @List.length_map.{0,0}) ?_
  refine AW.seq_k fun K19 h19 => ?_
  refine AW.reg0 ?_
  refine S.one @nd ?_
  refine S.cl @nd (ih x hxm (hn.kid hxm) (ho.kid hxm)) ?_
  all_goals refine S.one @nd ?_
  all_goals (refine S.nil ?_; simp only [ze, simprocAttr, nd]; apply_assumption)
  all_goals refine AW.sr trivial ?_
  refine AW.cd (x.err != 0) (fun hb => ?_) (fun hb => ?_)
  ·refine AW.sr trivial ?_
   refine AW.ret ?_
   simp only [zs, simprocAttr]
   all_goals ((try and_intros) <;> first | rfl | assumption | (simp_all))
  ·refine AW.skip ?_
   simp only [zs, simprocAttr]
   all_goals apply_assumption
   have hb : x.err = 0 := by simpa using hb
   rw [if_pos hb] at hp
   have q6q := J4 e58 e59 e60 hw
   refine AW.reg0 (S.rn q6q ?_)
   simp only [ze, simprocAttr, q6q]
   refine ⟨m - 1, by omega, i + 1, by omega, ?_⟩
   all_goals ((try and_intros) <;> first | rfl | assumption | (exact hp))
 ·have hi := of_decide_eq_false hi
  refine AW.exit ?_
  simp only [zs, simprocAttr]
  all_goals apply_assumption
  rw [List.drop_of_length_le (by omega)] at hp
  have hp : n.err = 0 := hp
  refine AW.sr trivial ?_
  refine AW.ret ?_
  simp only [zs, simprocAttr]
  all_goals ((try and_intros) <;> first | rfl | assumption | (rw [hp]))
theorem rnode_spec : ∀ n : Nd, n.small → n.ok → PCalls Tryz.prog 71 [.agg (encNd n)] (fun v => v = .c (.int .i64 n.err)) := Nd.ind fun n ih hn ho => by
 have hl := hn.len
 have hv := ho.own.var
 have ht := ho.own.type
 have htl := ho.own.len
 have q1 : ((n.kids.length : Int) < 2) = (n.kids.length < 2) := by rw [eq_iff_iff]; omega
 have q2 : ((n.tests.length : Int) > 0) = (n.tests.length > 0) := by rw [eq_iff_iff]; omega
 have q3 : ((n.kids.length : Int) > 0) = (n.kids.length > 0) := by rw [eq_iff_iff]; omega
 have hts := ho.own.tests
 rw [encNd_eq]
 refine PCalls.intro Tryz.call71 Tryz.func71 rfl Tryz.ntmps71 Tryz.results71 (by simp) ?_
 refine AW.sr trivial ?_
 refine AW.seq_j (fun s' σ' => σ' = Hp.empty ∧ s'.t 1 = .lp 1 0 ∧ s'.l 1 = some [.c (.int .i64 n.kind), .c (.string n.var), .c (.string n.type), .sl (n.tests.map encC), .sl (n.kids.map encNd)] ∧ ndOwn n = 0) ?_ ?_
 ·refine AW.sr trivial ?_
  refine AW.block ?_   -- 0
  refine AW.sr trivial ?_
  refine AW.cd (n.kind == 1) (fun hk => ?_) (fun hk => ?_)
  ·have hk : n.kind = 1 := by simpa using hk
   refine AW.seq_k fun K4 h4 => ?_
   refine AW.seq_j (fun s' σ' => σ' = Hp.empty ∧ s'.t 1 = .lp 1 0 ∧ s'.l 1 = some [.c (.int .i64 n.kind), .c (.string n.var), .c (.string n.type), .sl (n.tests.map encC), .sl (n.kids.map encNd)] ∧ s'.t 26 = .c (.bool (leafBad n))) ?_ ?_
   ·skip
    refine AW.reg0 ?_
    have q1q := J2 q3 @List.length_map.{0,0}
    iterate 3 refine S.one q1q ?_
    (refine S.sp q1q fun b a14 => ?_; cases b <;> (try exact nope a14))
    all_goals iterate 3 refine S.one q1q ?_
    all_goals have q2q := J2 q3 @List.length_map.{0,0}
    all_goals (first | (refine S.y rfl rfl rfl rfl fun Y Z => ?_; simp only [zz, simprocAttr, q2q]; (first | refine PCalls.eqto (rname_spec _ hv) ?_ | refine PCalls.eqto (rname_spec _ ht) ?_); refine S.bool fun b a18 => ?_; cases b <;> (try exact nope a18) <;> (refine Z _ _ ?_; clear Z Y)) | refine S.one trivial ?_)
    all_goals iterate 5 refine S.one q2q ?_
    all_goals have q3q := J2 q3 @List.length_map.{0,0}
    all_goals (first | (refine S.y rfl rfl rfl rfl fun Y Z => ?_; simp only [zz, simprocAttr, q3q]; (first | refine PCalls.eqto (rname_spec _ hv) ?_ | refine PCalls.eqto (rname_spec _ ht) ?_) <;> (refine Z _ _ ?_; clear Z Y)) | refine S.one trivial ?_)
    all_goals iterate 2 refine S.one q3q ?_
    all_goals refine S.nil ?_
    all_goals simp only [ze, simprocAttr, q3q]
    all_goals simp_all [leafBad]
   rintro s σ ⟨rfl, e1, l1, e26⟩
   refine AW.cond (b := leafBad n) e26 (fun hb => ?_) (fun hb => ?_)
   ·refine AW.sr trivial ?_
    refine AW.ret ?_
    simp only [zs, simprocAttr]
    all_goals ((try and_intros) <;> first | rfl | assumption | (simp [Nd.err_eq, ndOwn, hk, hb]))
   refine AW.skip ?_
   all_goals simp only [zs, simprocAttr]
   all_goals apply_assumption
   refine AW.seq_k fun K6 h6 => ?_
   all_goals refine AW.sr (J3 e1 l1 @List.length_map.{0,0}) ?_
   refine AW.cd (decide ((n.tests.length : Int) > 16)) (fun hc => ?_) (fun hc => ?_)
   ·have hc : 16 < n.tests.length := by have := of_decide_eq_true hc; omega
    refine AW.sr trivial ?_
    refine AW.ret ?_
    simp only [zs, simprocAttr]
    all_goals ((try and_intros) <;> first | rfl | assumption | (simp [Nd.err_eq, ndOwn, hk, hb, cndsErr, hc]))
   have hc : ¬ 16 < n.tests.length := by have := of_decide_eq_false hc; omega
   refine AW.skip ?_
   all_goals simp only [zs, simprocAttr]
   all_goals apply_assumption
   all_goals refine AW.sr (J2 e1 l1) ?_
   refine AW.block ?_   -- 1
   refine AW.loop (fun m s σ => σ = Hp.empty ∧ ∃ i : Nat, m + i = n.tests.length ∧ s.t 3 = .c (.int .i64 (i : Nat)) ∧ s.t 1 = .lp 1 0 ∧ s.l 1 = some [.c (.int .i64 n.kind), .c (.string n.var), .c (.string n.type), .sl (n.tests.map encC), .sl (n.kids.map encNd)] ∧ cndsBad [] n.tests = cndsBad [] (n.tests.drop i)) n.tests.length ?_ ?_
   ·refine ⟨rfl, 0, by simp, ?_⟩
    simp only [zs, simprocAttr, e1, l1]
    all_goals ((try and_intros) <;> first | rfl | assumption | (simp))
   rintro m s σ ⟨rfl, i, hm, e3, e1, l1, hp⟩
   refine AW.seq_k fun K10 h10 => ?_
   all_goals refine AW.sr (J4 e3 e1 l1 @List.length_map.{0,0}) ?_
   refine AW.cd (decide (i < n.tests.length)) (fun hi => ?_) (fun hi => ?_)
   ·have hi := of_decide_eq_true hi
    obtain ⟨c, hx, hcm, hg, hd⟩ := cnd_get hi
    have hw := wadd1 (a := i) (by omega)
    rw [hd, cndsBad_cons] at hp
    refine AW.skip ?_
    simp only [zs, simprocAttr]
    all_goals apply_assumption
    refine AW.seq_k fun K12 h12 => ?_
    refine AW.block ?_   -- 2
    refine AW.seq_k fun K13 h13 => ?_
    refine AW.reg0 ?_
    iterate 5 refine S.one (J7 e3 e1 l1 hi hg @cd @List.length_map.{0,0}) ?_
    have q4q := J7 e3 e1 l1 hi hg @cd @List.length_map.{0,0}
    refine S.cl q4q (rCond_spec c [] (hts c hcm) (by decide)) ?_
    all_goals refine S.one q4q ?_
    all_goals (refine S.nil ?_; simp only [ze, simprocAttr, q4q]; apply_assumption)
    all_goals refine AW.sr trivial ?_
    refine AW.cond (b := cndBad [] c) (by cases h : cndBad [] c <;> simp [ev]) (fun hb2 => ?_) (fun hb2 => ?_)
    ·refine AW.sr trivial ?_
     refine AW.ret ?_
     simp only [zs, simprocAttr]
     all_goals ((try and_intros) <;> first | rfl | assumption | (simp [Nd.err_eq, ndOwn, hk, hb, cndsErr, hc, hp, hb2]))
    ·refine AW.skip ?_
     simp only [zs, simprocAttr]
     all_goals apply_assumption
     rw [hb2, Bool.false_or] at hp
     have q5q := J4 e3 hw e1 l1
     refine AW.reg0 (S.rn q5q ?_)
     simp only [ze, simprocAttr, q5q]
     refine ⟨m - 1, by omega, i + 1, by omega, ?_⟩
     all_goals ((try and_intros) <;> first | rfl | assumption | (exact hp))
   ·have hi := of_decide_eq_false hi
    refine AW.exit ?_
    simp only [zs, simprocAttr]
    rw [List.drop_of_length_le (by omega)] at hp
    have hp : cndsBad [] n.tests = false := hp
    all_goals ((try and_intros) <;> first | rfl | assumption | (simp [ndOwn, hk, hb, cndsErr, hc, hp]))
  ·have hk : ¬ n.kind = 1 := by simpa using hk
   refine AW.seq_j (fun s' σ' => σ' = Hp.empty ∧ s'.t 1 = .lp 1 0 ∧ s'.l 1 = some [.c (.int .i64 n.kind), .c (.string n.var), .c (.string n.type), .sl (n.tests.map encC), .sl (n.kids.map encNd)] ∧ s'.t 47 = .c (.bool (decide (n.kind = 2 ∨ n.kind = 3 ∨ n.kind = 4)))) ?_ ?_
   ·refine AW.sr trivial ?_
    refine AW.cd (n.kind == 2) (fun h2 => ?_) (fun h2 => ?_)
    ·refine AW.skip ?_
     simp only [zs, simprocAttr]
     all_goals ((try and_intros) <;> first | rfl | assumption | (simp_all))
    all_goals refine AW.sr trivial ?_
    refine AW.cd (n.kind == 3) (fun h3 => ?_) (fun h3 => ?_)
    ·refine AW.skip ?_
     simp only [zs, simprocAttr]
     all_goals ((try and_intros) <;> first | rfl | assumption | (simp_all))
    all_goals refine AW.reg0 (S.rn trivial ?_)
    all_goals simp only [ze, simprocAttr]
    all_goals simp_all
    all_goals (rw [Bool.eq_iff_iff]; simp)
   rintro s σ ⟨rfl, e1, l1, e47⟩
   refine AW.cond (b := decide (n.kind = 2 ∨ n.kind = 3 ∨ n.kind = 4)) e47 (fun h4 => ?_) (fun h4 => ?_)
   ·have h4 := of_decide_eq_true h4
    refine AW.seq_j (fun s' σ' => σ' = Hp.empty ∧ s'.t 1 = .lp 1 0 ∧ s'.l 1 = some [.c (.int .i64 n.kind), .c (.string n.var), .c (.string n.type), .sl (n.tests.map encC), .sl (n.kids.map encNd)] ∧ s'.t 70 = .c (.bool (joinBad n))) ?_ ?_
    ·skip
     refine AW.reg0 ?_
     have q6q := J5 e1 l1 q1 q2 @List.length_map.{0,0}
     iterate 3 refine S.one q6q ?_
     (refine S.sp q6q fun b a54 => ?_; cases b <;> (try exact nope a54))
     all_goals iterate 3 refine S.one q6q ?_
     all_goals (first | (refine S.sp q6q fun b a58 => ?_; cases b <;> (try exact nope a58)) | refine S.one trivial ?_)
     all_goals iterate 4 refine S.one q6q ?_
     all_goals (first | (refine S.sp q6q fun b a63 => ?_; cases b <;> (try exact nope a63)) | refine S.one trivial ?_)
     all_goals iterate 7 refine S.one q6q ?_
     all_goals refine S.nil ?_
     all_goals simp only [ze, simprocAttr, q6q]
     all_goals simp_all [joinBad]
     all_goals omega
    rintro s σ ⟨rfl, e1, l1, e70⟩
    refine AW.cond (b := joinBad n) e70 (fun hb => ?_) (fun hb => ?_)
    ·refine AW.sr trivial ?_
     refine AW.ret ?_
     simp only [zs, simprocAttr]
     all_goals ((try and_intros) <;> first | rfl | assumption | (simp [Nd.err_eq, ndOwn, hk, hb, h4]))
    ·refine AW.skip ?_
     simp only [zs, simprocAttr]
     all_goals ((try and_intros) <;> first | rfl | assumption | (simp [ndOwn, hk, hb, h4]))
   ·have h4 := of_decide_eq_false h4
    refine AW.sr trivial ?_
    refine AW.ret ?_
    simp only [zs, simprocAttr]
    all_goals ((try and_intros) <;> first | rfl | assumption | (simp [Nd.err_eq, ndOwn, hk, h4]))
 rintro s σ ⟨rfl, e1, l1, h0⟩
 have he : n.err = firstErr (n.kids.map Nd.err) := by rw [Nd.err_eq, if_pos h0]
 refine AW.seq_k fun K20 h20 => ?_
 all_goals refine AW.sr (J2 e1 l1) ?_
 refine AW.block ?_   -- 3
 refine AW.loop (fun m s σ => σ = Hp.empty ∧ ∃ i : Nat, m + i = n.kids.length ∧ s.t 5 = .c (.int .i64 (i : Nat)) ∧ s.t 1 = .lp 1 0 ∧ s.l 1 = some [.c (.int .i64 n.kind), .c (.string n.var), .c (.string n.type), .sl (n.tests.map encC), .sl (n.kids.map encNd)] ∧ n.err = firstErr ((n.kids.drop i).map Nd.err)) n.kids.length ?_ ?_
 ·refine ⟨rfl, 0, by simp, ?_⟩
  simp only [zs, simprocAttr, e1, l1]
  all_goals ((try and_intros) <;> first | rfl | assumption | (simpa using he))
 rintro m s σ ⟨rfl, i, hm, e5, e1, l1, hp⟩
 refine AW.seq_k fun K22 h22 => ?_
 all_goals refine AW.sr (J4 e5 e1 l1 @List.length_map.{0,0}) ?_
 refine AW.cd (decide (i < n.kids.length)) (fun hi => ?_) (fun hi => ?_)
 ·have hi := of_decide_eq_true hi
  obtain ⟨x, hx, hxm, hg⟩ := kid_get hi
  have hd : n.kids.drop i = x :: n.kids.drop (i + 1) := by
   rw [List.drop_eq_getElem_cons hi]; congr 1; rw [List.getElem?_eq_getElem hi] at hx; exact Option.some.inj hx
  have hw := wadd1 (a := i) (by omega)
  rw [hd, List.map_cons, firstErr] at hp
  refine AW.skip ?_
  simp only [zs, simprocAttr]
  all_goals apply_assumption
  refine AW.seq_k fun K24 h24 => ?_
  refine AW.block ?_   -- 4
  refine AW.seq_k fun K25 h25 => ?_
  refine AW.reg0 ?_
  iterate 5 refine S.one (J7 e5 e1 l1 hi hg @nd @List.length_map.{0,0}) ?_
  have q7q := J7 e5 e1 l1 hi hg @nd @List.length_map.{0,0}
  refine S.cl q7q (ih x hxm (hn.kid hxm) (ho.kid hxm)) ?_
  all_goals refine S.one q7q ?_
  all_goals (refine S.nil ?_; simp only [ze, simprocAttr, q7q]; apply_assumption)
  all_goals refine AW.sr trivial ?_
  refine AW.cd (x.err != 0) (fun hb => ?_) (fun hb => ?_)
  ·refine AW.sr trivial ?_
   refine AW.ret ?_
   simp only [zs, simprocAttr]
   all_goals ((try and_intros) <;> first | rfl | assumption | (simp_all))
  ·refine AW.skip ?_
   simp only [zs, simprocAttr]
   all_goals apply_assumption
   have hb : x.err = 0 := by simpa using hb
   rw [if_pos hb] at hp
   have q8q := J4 e5 hw e1 l1
   refine AW.reg0 (S.rn q8q ?_)
   simp only [ze, simprocAttr, q8q]
   refine ⟨m - 1, by omega, i + 1, by omega, ?_⟩
   all_goals ((try and_intros) <;> first | rfl | assumption | (exact hp))
 ·have hi := of_decide_eq_false hi
  refine AW.exit ?_
  simp only [zs, simprocAttr]
  all_goals apply_assumption
  rw [List.drop_of_length_le (by omega)] at hp
  have hp : n.err = 0 := hp
  refine AW.sr trivial ?_
  refine AW.ret ?_
  simp only [zs, simprocAttr]
  all_goals ((try and_intros) <;> first | rfl | assumption | (rw [hp]))
def Nd.shape (n : Nd) : Int := if (decide (8 < n.deep) || decide (12 < n.terms)) = true then 72 else if n.err = 0 then (if 64 < n.alts then 72 else 0) else n.err
theorem Shape_spec (n : Nd) (hn : n.small) (ho : n.ok) : PCalls Tryz.prog 35 [.agg (encNd n)] (fun v => v = .c (.int .i64 n.shape)) := by
 have h1 : (((n.deep : Nat) : Int) > 8) = (8 < n.deep) := by rw [eq_iff_iff]; omega
 have h2 : (((n.terms : Nat) : Int) > 12) = (12 < n.terms) := by rw [eq_iff_iff]; omega
 have h3 : (((n.alts : Nat) : Int) > 64) = (64 < n.alts) := by rw [eq_iff_iff]; omega
 refine PCalls.intro Tryz.call35 Tryz.func35 rfl Tryz.ntmps35 Tryz.results35 (by simp) ?_
 refine AW.sr @nd ?_
 refine AW.seq_k fun K2 h2 => ?_
 refine AW.seq_j (fun s' σ' => σ' = Hp.empty ∧ s'.t 1 = .lp 1 0 ∧ s'.l 1 = some (encNd n) ∧ s'.t 11 = .c (.bool (decide (8 < n.deep) || decide (12 < n.terms)))) ?_ ?_
 ·skip
  refine AW.reg0 ?_
  refine S.one (J3 @nd h1 h2) ?_
  refine S.cl (J3 @nd h1 h2) (deep_spec n hn) ?_
  all_goals (refine S.sp (J3 @nd h1 h2) fun b a6 => ?_; cases b <;> (try exact nope a6))
  all_goals iterate 2 refine S.one (J3 @nd h1 h2) ?_
  all_goals (first | (refine S.cl (J3 @nd h1 h2) (terms_spec n hn) ?_) | refine S.one trivial ?_)
  all_goals iterate 2 refine S.one (J3 @nd h1 h2) ?_
  all_goals refine S.nil ?_
  all_goals simp only [ze, simprocAttr, nd, h1, h2]
  all_goals simp_all
  all_goals omega
 rintro s σ ⟨rfl, e1, l1, e11⟩
 refine AW.cond (b := decide (8 < n.deep) || decide (12 < n.terms)) e11 (fun hb => ?_) (fun hb => ?_)
 ·refine AW.sr trivial ?_
  refine AW.ret ?_
  simp only [zs, simprocAttr]
  all_goals ((try and_intros) <;> first | rfl | assumption | (simp [Nd.shape, hb]))
 have hs : n.shape = if n.err = 0 then (if 64 < n.alts then 72 else 0) else n.err := by rw [Nd.shape, if_neg (by rw [hb]; exact Bool.false_ne_true)]
 refine AW.skip ?_
 all_goals simp only [zs, simprocAttr]
 all_goals apply_assumption
 refine AW.seq_k fun K4 h4 => ?_
 refine AW.seq_k fun K5 h5 => ?_
 all_goals refine AW.reg0 ?_
 all_goals refine S.one (J3 e1 l1 @nd) ?_
 all_goals refine S.cl (J3 e1 l1 @nd) (node_spec n hn ho) ?_
 all_goals refine S.one (J3 e1 l1 @nd) ?_
 all_goals (refine S.nil ?_; simp only [ze, simprocAttr, e1, l1, nd]; apply_assumption)
 all_goals refine AW.sr trivial ?_
 refine AW.cd (n.err != 0) (fun hc => ?_) (fun hc => ?_)
 ·refine AW.sr trivial ?_
  refine AW.ret ?_
  simp only [zs, simprocAttr]
  all_goals ((try and_intros) <;> first | rfl | assumption | ((rw [hs, if_neg (by simpa using hc)])))
 have hc : n.err = 0 := by simpa using hc
 refine AW.skip ?_
 all_goals simp only [zs, simprocAttr]
 all_goals apply_assumption
 refine AW.seq_k fun K8 h8 => ?_
 refine AW.seq_k fun K9 h9 => ?_
 all_goals refine AW.reg0 ?_
 all_goals refine S.one (J4 e1 l1 @nd h3) ?_
 all_goals have q1q := J4 e1 l1 @nd h3
 all_goals refine S.cl q1q (alts_spec n ⟨hn.len, hn⟩) ?_
 all_goals refine S.one q1q ?_
 all_goals (refine S.nil ?_; simp only [ze, simprocAttr, q1q]; apply_assumption)
 refine AW.cd (decide (64 < n.alts)) (fun hd => ?_) (fun hd => ?_)
 ·refine AW.sr trivial ?_
  refine AW.ret ?_
  simp only [zs, simprocAttr]
  all_goals ((try and_intros) <;> first | rfl | assumption | ((rw [hs, if_pos hc]; simp_all)))
 ·refine AW.skip ?_
  simp only [zs, simprocAttr]
  all_goals apply_assumption
  refine AW.sr trivial ?_
  refine AW.ret ?_
  simp only [zs, simprocAttr]
  all_goals ((try and_intros) <;> first | rfl | assumption | ((rw [hs, if_pos hc]; simp_all)))
theorem rShape_spec (n : Nd) (hn : n.small) (ho : n.ok) : PCalls Tryz.prog 39 [.agg (encNd n)] (fun v => v = .c (.int .i64 n.shape)) := by
 have h1 : (((n.deep : Nat) : Int) > 8) = (8 < n.deep) := by rw [eq_iff_iff]; omega
 have h2 : (((n.terms : Nat) : Int) > 12) = (12 < n.terms) := by rw [eq_iff_iff]; omega
 have h3 : (((n.alts : Nat) : Int) > 64) = (64 < n.alts) := by rw [eq_iff_iff]; omega
 refine PCalls.intro Tryz.call39 Tryz.func39 rfl Tryz.ntmps39 Tryz.results39 (by simp) ?_
 refine AW.sr @nd ?_
 refine AW.seq_k fun K2 h2 => ?_
 refine AW.seq_j (fun s' σ' => σ' = Hp.empty ∧ s'.t 1 = .lp 1 0 ∧ s'.l 1 = some (encNd n) ∧ s'.t 11 = .c (.bool (decide (8 < n.deep) || decide (12 < n.terms)))) ?_ ?_
 ·skip
  refine AW.reg0 ?_
  refine S.one (J3 @nd h1 h2) ?_
  refine S.cl (J3 @nd h1 h2) (rdeep_spec n hn) ?_
  all_goals (refine S.sp (J3 @nd h1 h2) fun b a6 => ?_; cases b <;> (try exact nope a6))
  all_goals iterate 2 refine S.one (J3 @nd h1 h2) ?_
  all_goals (first | (refine S.cl (J3 @nd h1 h2) (rterms_spec n hn) ?_) | refine S.one trivial ?_)
  all_goals iterate 2 refine S.one (J3 @nd h1 h2) ?_
  all_goals refine S.nil ?_
  all_goals simp only [ze, simprocAttr, nd, h1, h2]
  all_goals simp_all
  all_goals omega
 rintro s σ ⟨rfl, e1, l1, e11⟩
 refine AW.cond (b := decide (8 < n.deep) || decide (12 < n.terms)) e11 (fun hb => ?_) (fun hb => ?_)
 ·refine AW.sr trivial ?_
  refine AW.ret ?_
  simp only [zs, simprocAttr]
  all_goals ((try and_intros) <;> first | rfl | assumption | (simp [Nd.shape, hb]))
 have hs : n.shape = if n.err = 0 then (if 64 < n.alts then 72 else 0) else n.err := by rw [Nd.shape, if_neg (by rw [hb]; exact Bool.false_ne_true)]
 refine AW.skip ?_
 all_goals simp only [zs, simprocAttr]
 all_goals apply_assumption
 refine AW.seq_k fun K4 h4 => ?_
 refine AW.seq_k fun K5 h5 => ?_
 all_goals refine AW.reg0 ?_
 all_goals refine S.one (J3 e1 l1 @nd) ?_
 all_goals refine S.cl (J3 e1 l1 @nd) (rnode_spec n hn ho) ?_
 all_goals refine S.one (J3 e1 l1 @nd) ?_
 all_goals (refine S.nil ?_; simp only [ze, simprocAttr, e1, l1, nd]; apply_assumption)
 all_goals refine AW.sr trivial ?_
 refine AW.cd (n.err != 0) (fun hc => ?_) (fun hc => ?_)
 ·refine AW.sr trivial ?_
  refine AW.ret ?_
  simp only [zs, simprocAttr]
  all_goals ((try and_intros) <;> first | rfl | assumption | ((rw [hs, if_neg (by simpa using hc)])))
 have hc : n.err = 0 := by simpa using hc
 refine AW.skip ?_
 all_goals simp only [zs, simprocAttr]
 all_goals apply_assumption
 refine AW.seq_k fun K8 h8 => ?_
 refine AW.seq_k fun K9 h9 => ?_
 all_goals refine AW.reg0 ?_
 all_goals refine S.one (J4 e1 l1 @nd h3) ?_
 all_goals have q1q := J4 e1 l1 @nd h3
 all_goals refine S.cl q1q (ralts_spec n hn) ?_
 all_goals refine S.one q1q ?_
 all_goals (refine S.nil ?_; simp only [ze, simprocAttr, q1q]; apply_assumption)
 refine AW.cd (decide (64 < n.alts)) (fun hd => ?_) (fun hd => ?_)
 ·refine AW.sr trivial ?_
  refine AW.ret ?_
  simp only [zs, simprocAttr]
  all_goals ((try and_intros) <;> first | rfl | assumption | ((rw [hs, if_pos hc]; simp_all)))
 ·refine AW.skip ?_
  simp only [zs, simprocAttr]
  all_goals apply_assumption
  refine AW.sr trivial ?_
  refine AW.ret ?_
  simp only [zs, simprocAttr]
  all_goals ((try and_intros) <;> first | rfl | assumption | ((rw [hs, if_pos hc]; simp_all)))
def ltS (a b : ByteArray) : Bool := Op.bytesLess a.toList b.toList
def putS (l : List ByteArray) (s : ByteArray) : List ByteArray := if hasS l s then l else l.takeWhile (ltS · s) ++ s :: l.dropWhile (ltS · s)
theorem len_str (l : List ByteArray) : ∀ (e : List V), e ∈ l.map encS → e.length = 1 := fun e he => by
 obtain ⟨a, _, rfl⟩ := List.mem_map.1 he; rfl
theorem take_cons {l : List ByteArray} {i : Nat} {x : ByteArray} (h : l[i]? = some x) (r : List ByteArray) : l.take i ++ x :: r = l.take (i + 1) ++ r := by
 rw [List.take_add_one, h, List.append_assoc]; rfl
theorem rput_spec (l : List ByteArray) (str : ByteArray) (hl : l.length < 1048576) : PCalls Tryz.prog 107 [.sl (l.map encS), .c (.string str)] (fun v => v = .sl ((putS l str).map encS)) := by
 refine PCalls.intro Tryz.call107 Tryz.func107 rfl Tryz.ntmps107 Tryz.results107 (by simp) ?_
 refine AW.sr trivial ?_
 refine AW.seq_k fun K2 h2 => ?_
 refine AW.seq_k fun K3 h3 => ?_
 refine AW.reg0 ?_
 iterate 2 refine S.one trivial ?_
 (refine S.g rfl rfl fun Y Z => ?_; simp only [zz, simprocAttr]; refine PCalls.eqto (rhasS_spec _ _ (by omega)) ?_ <;> (refine Z _ _ ?_; clear Z Y))
 (refine S.nil ?_; simp only [ze, simprocAttr]; apply_assumption)
 refine AW.cond (b := hasS l str) (by simp [ev]) (fun hb => ?_) (fun hb => ?_)
 ·refine AW.sr trivial ?_
  refine AW.ret ?_
  simp only [zs, simprocAttr]
  all_goals ((try and_intros) <;> first | rfl | assumption | (simp [putS, hb]))
 refine AW.skip ?_
 simp only [zs, simprocAttr]
 all_goals apply_assumption
 refine AW.sr trivial ?_
 refine AW.seq_j (fun s' σ' => σ' = Hp.empty ∧ s'.t 0 = .sl (l.map encS) ∧ s'.t 1 = .c (.string str) ∧ ∃ i : Nat, i ≤ l.length ∧ s'.t 5 = .c (.int .i64 (i : Nat)) ∧ l.takeWhile (ltS · str) = l.take i ∧ l.dropWhile (ltS · str) = l.drop i) ?_ ?_
 ·refine AW.block ?_   -- 0
  refine AW.loop (fun m s σ => σ = Hp.empty ∧ ∃ i : Nat, m + i = l.length ∧ s.t 0 = .sl (l.map encS) ∧ s.t 1 = .c (.string str) ∧ s.t 5 = .c (.int .i64 (i : Nat)) ∧ l.takeWhile (ltS · str) = l.take i ++ (l.drop i).takeWhile (ltS · str) ∧ l.dropWhile (ltS · str) = (l.drop i).dropWhile (ltS · str)) l.length ?_ ?_
  ·refine ⟨rfl, 0, by simp, ?_⟩
   simp only [zs, simprocAttr]
   all_goals ((try and_intros) <;> first | rfl | assumption | (simp))
  rintro m s σ ⟨rfl, i, hm, e0, e1, e5, hp, hq⟩
  refine AW.seq_k fun K6 h6 => ?_
  refine AW.seq_j (fun s' σ' => σ' = Hp.empty ∧ s'.t 0 = .sl (l.map encS) ∧ s'.t 1 = .c (.string str) ∧ s'.t 5 = .c (.int .i64 (i : Nat)) ∧ s'.t 22 = .c (.bool (decide (i < l.length) && (l[i]?.map (ltS · str)).getD false))) ?_ ?_
  ·by_cases hi : i < l.length
   ·obtain ⟨x, hx, hg, hd⟩ := str_get hi
    refine AW.reg0 ?_
    have q1q := J6 e0 e1 e5 hi hg @List.length_map.{0,0}
    iterate 3 refine S.one q1q ?_
    (refine S.sp q1q fun b a14 => ?_; cases b <;> (try exact nope a14))
    iterate 8 refine S.one q1q ?_
    refine S.nil ?_
    simp only [ze, simprocAttr, q1q]
    simp_all [ltS]
   ·have hx : l[i]? = none := List.getElem?_eq_none (by omega)
    refine AW.reg0 ?_
    have q2q := J5 e0 e1 e5 hi @List.length_map.{0,0}
    iterate 3 refine S.one q2q ?_
    (refine S.sp q2q fun b a14 => ?_; cases b <;> (try exact nope a14))
    iterate 8 refine S.one q2q ?_
    refine S.nil ?_
    simp only [ze, simprocAttr, q2q]
    simp_all
  rintro s σ ⟨rfl, e0, e1, e5, e22⟩
  refine AW.cond (b := decide (i < l.length) && (l[i]?.map (ltS · str)).getD false) e22 (fun hc => ?_) (fun hc => ?_)
  ·rw [Bool.and_eq_true, decide_eq_true_eq] at hc
   obtain ⟨hi, hc⟩ := hc
   obtain ⟨x, hx, hg, hd⟩ := str_get hi
   have hw := wadd1 (a := i) (by omega)
   rw [hx] at hc
   have hc : ltS x str = true := hc
   refine AW.skip ?_
   simp only [zs, simprocAttr]
   all_goals apply_assumption
   refine AW.block ?_   -- 1
   have q3q := J4 e5 hw e0 e1
   refine AW.reg0 (S.rn q3q ?_)
   simp only [ze, simprocAttr, q3q]
   refine ⟨m - 1, by omega, i + 1, by omega, ?_⟩
   rw [hd, List.takeWhile_cons_of_pos (p := (ltS · str)) hc, take_cons hx] at hp
   rw [hd, List.dropWhile_cons_of_pos (p := (ltS · str)) hc] at hq
   all_goals ((try and_intros) <;> first | rfl | assumption | (exact ⟨hp, hq⟩))
  ·refine AW.exit ?_
   simp only [zs, simprocAttr]
   refine ⟨e0, e1, i, by omega, e5, ?_⟩
   by_cases hi : i < l.length
   ·obtain ⟨x, hx, hg, hd⟩ := str_get hi
    rw [hx] at hc
    have hc : ltS x str = false := by simpa [hi] using hc
    rw [hd, List.takeWhile_cons_of_neg (p := (ltS · str)) (by rw [hc]; exact Bool.false_ne_true), List.append_nil] at hp
    rw [hd, List.dropWhile_cons_of_neg (p := (ltS · str)) (by rw [hc]; exact Bool.false_ne_true)] at hq
    exact ⟨hp, by rw [hq, hd]⟩
   ·rw [List.drop_of_length_le (by omega)] at hp hq
    rw [List.drop_of_length_le (by omega)]
    exact ⟨by simpa using hp, hq⟩
 rintro s σ ⟨rfl, e0, e1, i, hi, e5, h1, h2⟩
 refine AW.sr trivial ?_
 refine AW.seq_k fun K8 h8 => ?_
 have hT : (l.map encS).take i = (l.take i).map encS := List.map_take.symm
 have hD : (l.map encS).drop i = (l.drop i).map encS := List.map_drop.symm
 have hTl : (l.take i).length = i := by rw [List.length_take]; omega
 have hDl : (l.drop i).length = l.length - i := List.length_drop
 have z1 : (∀ (e : List V), e ∈ l.map encS → e.length = 1) = True := eq_true (len_str l)
 have z2 : (∀ (e : List V), e ∈ (l.take i).map encS → e.length = 1) = True := eq_true (len_str _)
 have z3 : (∀ (e : List V), e ∈ (l.drop i).map encS → e.length = 1) = True := eq_true (len_str _)
 have z4 : (∀ (e : List V), e ∈ [[V.c (.string str)]] → e.length = 1) = True := eq_true (len_str [str])
 have y1 : (i ≤ maxLen) = True := eq_true (by unfold maxLen; omega)
 have y2 : (i * 16 ≤ reach) = True := eq_true (by unfold reach; omega)
 have y3 : (i + 1 ≤ maxLen) = True := eq_true (by unfold maxLen; omega)
 have y4 : ((i + 1) * 16 ≤ reach) = True := eq_true (by unfold reach; omega)
 have y5 : (i + 1 + (l.length - i) ≤ maxLen) = True := eq_true (by unfold maxLen; omega)
 have y6 : ((i + 1 + (l.length - i)) * 16 ≤ reach) = True := eq_true (by unfold reach; omega)
 refine AW.reg0 ?_
 iterate 4 refine S.one (J12 e0 e1 e5 hi hT hD hTl hDl z1 z2 z3 (J12 z4 y1 y2 y3 y4 y5 y6 @List.length_map.{0,0} @Int.le_refl @Int.toNat_zero @Nat.sub_zero @List.drop_zero.{0})) ?_
 (refine S.g rfl rfl fun Y Z => ?_; simp only [zz, simprocAttr, tt, e0, e1, e5, hi, hT, hD, hTl, hDl, z1, z2, z3, z4, y1, y2, y3, y4, y5, y6, List.length_map, Int.le_refl, Int.toNat_zero, Nat.sub_zero, List.drop_zero]; intro k1 hk1 <;> (refine Z _ _ ?_; clear Z Y))
 iterate 2 (refine S.g rfl rfl fun Y Z => ?_; simp only [zb, simprocAttr, e0, e1, e5, hi, hT, hD, hTl, hDl, z1, z2, z3, z4, y1, y2, y3, y4, y5, y6, List.length_map, Int.le_refl, Int.toNat_zero, Nat.sub_zero, List.drop_zero, Nat.reduceLT, Nat.reduceLeDiff, reduceCtorEq, Nat.reduceMul, tt]; refine Z _ _ ?_; clear Z Y)
 have q4q := J12 e0 e1 e5 hi hT hD hTl hDl z1 z2 z3 (J12 z4 y1 y2 y3 y4 y5 y6 @List.length_map.{0,0} @Int.le_refl @Int.toNat_zero @Nat.sub_zero @List.drop_zero.{0})
 (refine S.g rfl rfl fun Y Z => ?_; simp only [zz, simprocAttr, tt, q4q]; intro k2 hk2 <;> (refine Z _ _ ?_; clear Z Y))
 refine S.one q4q ?_
 (refine S.nil ?_; simp only [ze, simprocAttr, q4q]; apply_assumption)
 have hD2 : ((l.drop i).map encS).take (l.length - i) = (l.drop i).map encS := List.take_of_length_le (by rw [List.length_map, hDl]; omega)
 refine AW.seq_k fun K9 h9 => ?_
 refine AW.reg0 ?_
 iterate 4 refine S.one (J12 e0 e1 e5 hi hT hD hTl hDl hD2 z1 z2 (J10 z3 z4 y5 y6 @List.length_append.{0} @List.length_map.{0,0} @Int.le_refl @Int.toNat_zero @Nat.sub_zero @List.drop_zero.{0})) ?_
 have q5q := J12 e0 e1 e5 hi hT hD hTl hDl hD2 z1 z2 (J10 z3 z4 y5 y6 @List.length_append.{0} @List.length_map.{0,0} @Int.le_refl @Int.toNat_zero @Nat.sub_zero @List.drop_zero.{0})
 (refine S.g rfl rfl fun Y Z => ?_; simp only [zz, simprocAttr, tt, q5q]; intro k3 hk3 <;> (refine Z _ _ ?_; clear Z Y))
 refine S.one q5q ?_
 (refine S.nil ?_; simp only [ze, simprocAttr, q5q]; apply_assumption)
 refine AW.freeze (k := k3) (T := (9, 1)) (es := (putS l str).map encS) (by simp only [Hp.setGr_gr, if_true, putS, hb, h1, h2]; simp [encS]) (AW.bare (AW.ret ?_))
 simp only [zs, simprocAttr, fzV, fz1, St.fz_t, St.fz_l]
def putAll (acc kv : List ByteArray) : List ByteArray := kv.foldl putS acc
theorem take_drop_while {p : ByteArray → Bool} (l : List ByteArray) : (l.takeWhile p).length + (l.dropWhile p).length = l.length := by
 rw [← List.length_append, List.takeWhile_append_dropWhile]
theorem putS_len (l : List ByteArray) (s : ByteArray) : (putS l s).length ≤ l.length + 1 := by
 unfold putS
 split
 ·omega
 ·have := take_drop_while (p := (ltS · s)) l
  rw [List.length_append, List.length_cons]; omega
theorem putAll_len (kv : List ByteArray) : ∀ acc : List ByteArray, (putAll acc kv).length ≤ acc.length + kv.length := by
 induction kv with
 | nil => intro acc; exact Nat.le_refl _
 | cons s kv ih => intro acc; have h1 := ih (putS acc s); have h2 := putS_len acc s; simp only [putAll, List.foldl_cons, List.length_cons] at *; omega
def varsOf (n : Nd) (l : List (List ByteArray)) : List ByteArray := l.foldl putAll (if n.var.size = 0 then [] else putS [] n.var)
def Nd.vars (n : Nd) : List ByteArray := n.para varsOf
theorem Nd.vars_eq (n : Nd) : n.vars = varsOf n (n.kids.map Nd.vars) := Nd.para_eq _ n
theorem foldAll_len (l : List (List ByteArray)) : ∀ acc : List ByteArray, (l.foldl putAll acc).length ≤ acc.length + (l.map List.length).sum := by
 induction l with
 | nil => intro acc; exact Nat.le_refl _
 | cons s l ih => intro acc; have h1 := ih (putAll acc s); have h2 := putAll_len s acc; simp only [List.foldl_cons, List.map_cons, List.sum_cons] at *; omega
def Nd.v0 (n : Nd) : List ByteArray := if n.var.size = 0 then [] else putS [] n.var
theorem Nd.v0_len (n : Nd) : n.v0.length ≤ 1 := by
 unfold Nd.v0
 split
 ·exact Nat.zero_le _
 ·have := putS_len [] n.var; simpa using this
theorem Nd.vars_size : ∀ n : Nd, n.vars.length ≤ n.size := Nd.ind fun n ih => by
 rw [Nd.vars_eq, Nd.size_eq]
 have h1 := foldAll_len (n.kids.map Nd.vars) n.v0
 have h2 := n.v0_len
 rw [List.map_map] at h1
 have h3 := sum_le (f := List.length ∘ Nd.vars) (g := Nd.size) (ks := n.kids) ih
 unfold varsOf
 unfold Nd.v0 at *
 omega
def Nd.vfst (n : Nd) (i : Nat) : List ByteArray := ((n.kids.take i).map Nd.vars).foldl putAll n.v0
theorem Nd.vfst_size (n : Nd) (i : Nat) {x : Nd} (hx : n.kids[i]? = some x) : (n.vfst i).length + x.vars.length ≤ n.size := by
 have h1 := foldAll_len ((n.kids.take i).map Nd.vars) n.v0
 have h2 := n.v0_len
 rw [List.map_map] at h1
 have h3 := sum_le (f := List.length ∘ Nd.vars) (g := Nd.size) (ks := n.kids.take i) (fun y _ => y.vars_size)
 have h4 := sum_step (l := n.kids.map Nd.size) (i := i) (x := x.size) (by rw [List.getElem?_map, hx]; rfl)
 have h5 := sum_take (n.kids.map Nd.size) (i + 1)
 have h6 := n.size_eq
 have h7 := x.vars_size
 simp only [← List.map_take] at h4 h5
 unfold Nd.vfst
 omega
theorem Nd.vfst_step (n : Nd) (i : Nat) {x : Nd} (hx : n.kids[i]? = some x) : n.vfst (i + 1) = putAll (n.vfst i) x.vars := by
 unfold Nd.vfst
 rw [List.map_take, List.map_take, fold_step (x := x.vars) (by rw [List.getElem?_map, hx]; rfl)]
theorem putAll_step {A kv : List ByteArray} {j : Nat} {s : ByteArray} (h : kv[j]? = some s) : putAll A (kv.take (j + 1)) = putS (putAll A (kv.take j)) s := fold_step h
def SlN (l : List ByteArray) (v : V) : Prop := v = .sl (l.map encS) ∨ (v = .c (.slice none 0 0) ∧ l = [])
theorem rVars_spec : ∀ n : Nd, n.small → PCalls Tryz.prog 73 [.agg (encNd n)] (fun v => v = .sl (n.vars.map encS)) := Nd.ind fun n ih hn => by
 have hl := hn.len
 have hn' : n.size ≤ 1048576 := hn
 rw [encNd_eq]
 refine PCalls.intro Tryz.call73 Tryz.func73 rfl Tryz.ntmps73 Tryz.results73 (by simp) ?_
 refine AW.sr trivial ?_
 refine AW.sr trivial ?_
 refine AW.seq_j (fun s' σ' => σ' = Hp.empty ∧ s'.t 1 = .lp 1 0 ∧ s'.l 1 = some [.c (.int .i64 n.kind), .c (.string n.var), .c (.string n.type), .sl (n.tests.map encC), .sl (n.kids.map encNd)] ∧ SlN (n.vfst 0) (s'.t 3)) ?_ ?_
 ·refine AW.sr trivial ?_
  refine AW.cd (!decide (n.var.size = 0)) (fun hb => ?_) (fun hb => ?_)
  ·have hb : ¬ n.var.size = 0 := by simpa using hb
   have hnil : ([] : List ByteArray).length < 1048576 := by decide
   refine AW.reg0 ?_
   iterate 3 refine S.one trivial ?_
   (refine S.g rfl rfl fun Y Z => ?_; simp only [zz, simprocAttr]; (first | refine PCalls.eqto (rput_spec _ _ (by omega)) ?_ | refine PCalls.eqto (rput_spec [] _ (by decide)) ?_) <;> (refine Z _ _ ?_; clear Z Y))
   refine S.one trivial ?_
   refine S.nil ?_
   simp only [ze, simprocAttr]
   all_goals ((try and_intros) <;> first | rfl | assumption | (exact .inl (by simp [Nd.vfst, Nd.v0, hb])))
  ·have hb : n.var.size = 0 := by simpa using hb
   refine AW.skip ?_
   simp only [zs, simprocAttr]
   all_goals ((try and_intros) <;> first | rfl | assumption | (exact .inr ⟨rfl, by simp [Nd.vfst, Nd.v0, hb]⟩))
 rintro s σ ⟨rfl, e1, l1, e3⟩
 refine AW.seq_k fun K4 h4 => ?_
 refine AW.sr (J2 e1 l1) ?_
 refine AW.block ?_   -- 0
 refine AW.loop (fun m s σ => σ = Hp.empty ∧ ∃ i : Nat, m + i = n.kids.length ∧ s.t 4 = .c (.int .i64 (i : Nat)) ∧ s.t 1 = .lp 1 0 ∧ s.l 1 = some [.c (.int .i64 n.kind), .c (.string n.var), .c (.string n.type), .sl (n.tests.map encC), .sl (n.kids.map encNd)] ∧ SlN (n.vfst i) (s.t 3)) n.kids.length ?_ ?_
 ·refine ⟨rfl, 0, by simp, ?_⟩
  simp only [zs, simprocAttr, e1, l1]
  all_goals ((try and_intros) <;> first | rfl | assumption | (exact e3))
 rintro m s σ ⟨rfl, i, hm, e4, e1, l1, e3⟩
 refine AW.seq_k fun K6 h6 => ?_
 refine AW.sr (J4 e4 e1 l1 @List.length_map.{0,0}) ?_
 refine AW.cd (decide (i < n.kids.length)) (fun hi => ?_) (fun hi => ?_)
 ·have hi := of_decide_eq_true hi
  obtain ⟨x, hx, hxm, hg⟩ := kid_get hi
  have hw := wadd1 (a := i) (by omega)
  have hsz := n.vfst_size i hx
  refine AW.skip ?_
  simp only [zs, simprocAttr]
  all_goals apply_assumption
  refine AW.seq_k fun K8 h8 => ?_
  refine AW.block ?_   -- 1
  refine AW.seq_k fun K9 h9 => ?_
  refine AW.reg0 ?_
  iterate 5 refine S.one (J7 e4 e1 l1 hi hg @nd @List.length_map.{0,0}) ?_
  have q1q := J7 e4 e1 l1 hi hg @nd @List.length_map.{0,0}
  refine S.cl q1q (ih x hxm (hn.kid hxm)) ?_
  refine S.one q1q ?_
  (refine S.nil ?_; simp only [ze, simprocAttr, q1q]; apply_assumption)
  refine AW.sr trivial ?_
  refine AW.block ?_   -- 2
  refine AW.loop (fun m2 s σ => σ = Hp.empty ∧ ∃ j : Nat, m2 + j = x.vars.length ∧ s.t 6 = .c (.int .i64 (j : Nat)) ∧ s.t 5 = .sl (x.vars.map encS) ∧ s.t 4 = .c (.int .i64 (i : Nat)) ∧ s.t 1 = .lp 1 0 ∧ s.l 1 = some [.c (.int .i64 n.kind), .c (.string n.var), .c (.string n.type), .sl (n.tests.map encC), .sl (n.kids.map encNd)] ∧ SlN (putAll (n.vfst i) (x.vars.take j)) (s.t 3)) x.vars.length ?_ ?_
  ·refine ⟨rfl, 0, by simp, ?_⟩
   simp only [zs, simprocAttr, e1, l1, e4]
   all_goals ((try and_intros) <;> first | rfl | assumption | (exact e3))
  rintro m2 s σ ⟨rfl, j, hm2, e6, e5, e4, e1, l1, e3⟩
  refine AW.seq_k fun K11 h11 => ?_
  refine AW.sr (J3 e6 e5 @List.length_map.{0,0}) ?_
  refine AW.cd (decide (j < x.vars.length)) (fun hj => ?_) (fun hj => ?_)
  ·have hj := of_decide_eq_true hj
   obtain ⟨y, hy, hgy, hdy⟩ := str_get hj
   have hw2 := wadd1 (a := j) (by omega)
   have hst := putAll_step (A := n.vfst i) hy
   have hpl := putAll_len (x.vars.take j) (n.vfst i)
   rw [List.length_take] at hpl
   refine AW.skip ?_
   simp only [zs, simprocAttr]
   all_goals apply_assumption
   refine AW.seq_k fun K13 h13 => ?_
   refine AW.block ?_   -- 3
   rcases e3 with e3 | ⟨e3, e3n⟩
   ·skip
    refine AW.reg0 ?_
    iterate 5 refine S.one (J6 e3 e5 e6 hj hgy @List.length_map.{0,0}) ?_
    have q2q := J6 e3 e5 e6 hj hgy @List.length_map.{0,0}
    (refine S.g rfl rfl fun Y Z => ?_; simp only [zz, simprocAttr, q2q]; (first | refine PCalls.eqto (rput_spec _ _ (by omega)) ?_ | refine PCalls.eqto (rput_spec [] _ (by decide)) ?_) <;> (refine Z _ _ ?_; clear Z Y))
    refine S.one q2q ?_
    (refine S.nil ?_; simp only [ze, simprocAttr, q2q]; apply_assumption)
    have q3q := J6 e6 hw2 e5 e4 e1 l1
    refine AW.reg0 (S.rn q3q ?_)
    simp only [ze, simprocAttr, q3q]
    refine ⟨m2 - 1, by omega, j + 1, by omega, ?_⟩
    all_goals ((try and_intros) <;> first | rfl | assumption | (exact .inl (by rw [hst])))
   ·have hnil : ([] : List ByteArray).length < 1048576 := by decide
    refine AW.reg0 ?_
    iterate 5 refine S.one (J6 e3 e5 e6 hj hgy @List.length_map.{0,0}) ?_
    have q4q := J6 e3 e5 e6 hj hgy @List.length_map.{0,0}
    (refine S.g rfl rfl fun Y Z => ?_; simp only [zz, simprocAttr, q4q]; (first | refine PCalls.eqto (rput_spec _ _ (by omega)) ?_ | refine PCalls.eqto (rput_spec [] _ (by decide)) ?_) <;> (refine Z _ _ ?_; clear Z Y))
    refine S.one q4q ?_
    (refine S.nil ?_; simp only [ze, simprocAttr, q4q]; apply_assumption)
    have q5q := J6 e6 hw2 e5 e4 e1 l1
    refine AW.reg0 (S.rn q5q ?_)
    simp only [ze, simprocAttr, q5q]
    refine ⟨m2 - 1, by omega, j + 1, by omega, ?_⟩
    all_goals ((try and_intros) <;> first | rfl | assumption | (exact .inl (by rw [hst, e3n])))
  ·have hj := of_decide_eq_false hj
   refine AW.exit ?_
   simp only [zs, simprocAttr]
   all_goals apply_assumption
   rw [List.take_of_length_le (by omega), ← n.vfst_step i hx] at e3
   have q6q := J4 e4 hw e1 l1
   refine AW.reg0 (S.rn q6q ?_)
   simp only [ze, simprocAttr, q6q]
   refine ⟨m - 1, by omega, i + 1, by omega, ?_⟩
   all_goals ((try and_intros) <;> first | rfl | assumption | (exact e3))
 ·have hi := of_decide_eq_false hi
  refine AW.exit ?_
  simp only [zs, simprocAttr]
  all_goals apply_assumption
  have hv : n.vfst i = n.vars := by rw [Nd.vfst, List.take_of_length_le (by omega), Nd.vars_eq]; rfl
  rw [hv] at e3
  rcases e3 with e3 | ⟨e3, e3n⟩
  ·refine AW.sr e3 ?_
   refine AW.ret ?_
   simp only [zs, simprocAttr]
   all_goals exact fn1
  ·refine AW.sr e3 ?_
   refine AW.ret ?_
   simp only [zs, simprocAttr]
   all_goals ((try and_intros) <;> first | rfl | assumption | ((rw [e3n]; rfl)))
def meets (kv ov : List ByteArray) : Bool := ov.any (hasS kv)
def bindsFrom (k : Bool) : List (List ByteArray) → List (Int × List ByteArray) → Int
  | _, [] => 0
  | seen, (e, kv) :: r => if e = 0 then (if k && seen.any (meets kv) then 73 else bindsFrom k (seen ++ [kv]) r) else e
def twin (n : Nd) : Bool := decide (n.kind = 2 ∨ n.kind = 3)
def Nd.binds (n : Nd) : Int := n.para fun n l => bindsFrom (twin n) [] (l.zip (n.kids.map Nd.vars))
def bindOf (x : Nd) : Int × List ByteArray := (x.binds, x.vars)
theorem Nd.binds_eq (n : Nd) : n.binds = bindsFrom (twin n) [] (n.kids.map bindOf) := by
 rw [Nd.binds, Nd.para_eq]
 congr 1
 have : ∀ ks : List Nd, (ks.map (fun x => Nd.para (fun n l => bindsFrom (twin n) [] (l.zip (n.kids.map Nd.vars))) x)).zip (ks.map Nd.vars) = ks.map bindOf := fun ks => by
  induction ks with
  | nil => rfl
  | cons x xs ih => rw [List.map_cons, List.map_cons, List.zip_cons_cons, ih]; rfl
 exact this _
theorem kid_drop {n : Nd} {i : Nat} {x : Nd} (hx : n.kids[i]? = some x) : n.kids.drop i = x :: n.kids.drop (i + 1) := by
 obtain ⟨hi, h⟩ := List.getElem?_eq_some_iff.1 hx
 rw [List.drop_eq_getElem_cons hi, h]
theorem any_step {α : Type} {p : α → Bool} {l : List α} {i : Nat} {x : α} (h : l[i]? = some x) : (l.take (i + 1)).any p = ((l.take i).any p || p x) := by
 rw [List.take_add_one, h, List.any_append]; simp
theorem any_mem {α : Type} {p : α → Bool} {l : List α} {i : Nat} {x : α} (h : l[i]? = some x) (hp : p x = true) : l.any p = true :=
 List.any_eq_true.2 ⟨x, List.mem_of_getElem? h, hp⟩
theorem rBinds_spec : ∀ n : Nd, n.small → PCalls Tryz.prog 40 [.agg (encNd n)] (fun v => v = .c (.int .i64 n.binds)) := Nd.ind fun n ih hn => by
  have hl := hn.len
  rw [encNd_eq]
  refine PCalls.intro Tryz.call40 Tryz.func40 rfl Tryz.ntmps40 Tryz.results40 (by simp) ?_
  refine AW.sr trivial ?_
  refine AW.seq_k fun K2 h2 => ?_
  refine AW.sr trivial ?_
  refine AW.block ?_   -- 0
  refine AW.loop (fun m s σ => σ = Hp.empty ∧ ∃ i : Nat, m + i = n.kids.length ∧ s.t 3 = .c (.int .i64 (i : Nat)) ∧ s.t 1 = .lp 1 0 ∧ s.l 1 = some [.c (.int .i64 n.kind), .c (.string n.var), .c (.string n.type), .sl (n.tests.map encC), .sl (n.kids.map encNd)] ∧ n.binds = bindsFrom (twin n) ((n.kids.take i).map Nd.vars) ((n.kids.drop i).map bindOf)) n.kids.length ?_ ?_
  · refine ⟨rfl, 0, by simp, ?_⟩
    simp only [zs, simprocAttr]
    all_goals ((try and_intros) <;> first | rfl | assumption | (exact n.binds_eq))
  rintro m s σ ⟨rfl, i, hm, e3, e1, l1, hp⟩
  refine AW.seq_k fun K4 h4 => ?_
  all_goals refine AW.sr (J4 e3 e1 l1 @List.length_map.{0,0}) ?_
  refine AW.cd (decide (i < n.kids.length)) (fun hi => ?_) (fun hi => ?_)
  · have hi := of_decide_eq_true hi
    obtain ⟨x, hx, hxm, hg⟩ := kid_get hi
    have hw := wadd1 (a := i) (by omega)
    have hxs := x.vars_size
    have hxn : x.size ≤ 1048576 := hn.kid hxm
    rw [kid_drop hx, List.map_cons, bindOf, bindsFrom] at hp
    refine AW.skip ?_
    simp only [zs, simprocAttr]
    all_goals apply_assumption
    refine AW.seq_k fun K6 h6 => ?_
    refine AW.block ?_   -- 1
    refine AW.seq_k fun K7 h7 => ?_
    refine AW.seq_k fun K8 h8 => ?_
    refine AW.reg0 ?_
    iterate 5 refine S.one (J7 e3 e1 l1 hi hg @nd @List.length_map.{0,0}) ?_
    have q1q := J7 e3 e1 l1 hi hg @nd @List.length_map.{0,0}
    refine S.cl q1q (ih x hxm (hn.kid hxm)) ?_
    all_goals refine S.one q1q ?_
    all_goals (refine S.nil ?_; simp only [ze, simprocAttr, q1q]; apply_assumption)
    all_goals refine AW.sr trivial ?_
    refine AW.cd (x.binds != 0) (fun hb => ?_) (fun hb => ?_)
    · have hb : ¬ x.binds = 0 := by simpa using hb
      refine AW.sr trivial ?_
      refine AW.ret ?_
      simp only [zs, simprocAttr]
      all_goals ((try and_intros) <;> first | rfl | assumption | (rw [hp, if_neg hb]))
    have hb : x.binds = 0 := by simpa using hb
    rw [if_pos hb] at hp
    refine AW.skip ?_
    all_goals simp only [zs, simprocAttr]
    all_goals apply_assumption
    refine AW.seq_k fun K11 h11 => ?_
    all_goals refine AW.reg0 ?_
    all_goals iterate 5 refine S.one (J7 e3 e1 l1 hi hg @nd @List.length_map.{0,0}) ?_
    all_goals have q2q := J7 e3 e1 l1 hi hg @nd @List.length_map.{0,0}
    all_goals (refine S.g rfl rfl fun Y Z => ?_; simp only [zz, simprocAttr, q2q]; (first | refine PCalls.eqto (rVars_spec x (hn.kid hxm)) ?_ | refine PCalls.eqto (rVars_spec y (hn.kid hym)) ?_) <;> (refine Z _ _ ?_; clear Z Y))
    all_goals refine S.one q2q ?_
    all_goals (refine S.nil ?_; simp only [ze, simprocAttr, q2q]; apply_assumption)
    all_goals refine AW.sr trivial ?_
    refine AW.block ?_   -- 2
    refine AW.loop (fun m2 s σ => σ = Hp.empty ∧ ∃ j : Nat, m2 + j = i ∧ s.t 6 = .c (.int .i64 (j : Nat)) ∧ s.t 5 = .sl (x.vars.map encS) ∧ s.t 3 = .c (.int .i64 (i : Nat)) ∧ s.t 1 = .lp 1 0 ∧ s.l 1 = some [.c (.int .i64 n.kind), .c (.string n.var), .c (.string n.type), .sl (n.tests.map encC), .sl (n.kids.map encNd)] ∧ (twin n && ((n.kids.take j).map Nd.vars).any (meets x.vars)) = false) i ?_ ?_
    · refine ⟨rfl, 0, by simp, ?_⟩
      simp only [zs, simprocAttr, e1, l1, e3]
      all_goals ((try and_intros) <;> first | rfl | assumption | (simp))
    rintro m2 s σ ⟨rfl, j, hm2, e6, e5, e3, e1, l1, hq⟩
    refine AW.seq_k fun K13 h13 => ?_
    refine AW.seq_j (fun s' σ' => σ' = Hp.empty ∧ s'.t 6 = .c (.int .i64 (j : Nat)) ∧ s'.t 5 = .sl (x.vars.map encS) ∧ s'.t 3 = .c (.int .i64 (i : Nat)) ∧ s'.t 1 = .lp 1 0 ∧ s'.l 1 = some [.c (.int .i64 n.kind), .c (.string n.var), .c (.string n.type), .sl (n.tests.map encC), .sl (n.kids.map encNd)] ∧ s'.t 43 = .c (.bool (decide (j < i) && twin n))) ?_ ?_
    · skip
      refine AW.reg0 ?_
      have q3q := J5 e6 e5 e3 e1 l1
      iterate 2 refine S.one q3q ?_
      (refine S.sp q3q fun b a33 => ?_; cases b <;> (try exact nope a33))
      all_goals iterate 3 refine S.one q3q ?_
      all_goals (first | (refine S.sp q3q fun b a37 => ?_; cases b <;> (try exact nope a37)) | refine S.one trivial ?_)
      all_goals iterate 6 refine S.one q3q ?_
      all_goals refine S.nil ?_
      all_goals simp only [ze, simprocAttr, q3q]
      all_goals simp_all [twin]
      all_goals first | (rw [Bool.eq_iff_iff]; simp; done) | (intro hh; exfalso; omega)
    rintro s σ ⟨rfl, e6, e5, e3, e1, l1, e43⟩
    refine AW.cond (b := decide (j < i) && twin n) e43 (fun hj => ?_) (fun hj => ?_)
    · rw [Bool.and_eq_true, decide_eq_true_eq] at hj
      obtain ⟨hj, htw⟩ := hj
      have hjl : j < n.kids.length := by omega
      obtain ⟨y, hy, hym, hgy⟩ := kid_get hjl
      have hys := y.vars_size
      have hyn : y.size ≤ 1048576 := hn.kid hym
      have hw2 := wadd1 (a := j) (by omega)
      have hyv : (n.kids.map Nd.vars)[j]? = some y.vars := by rw [List.getElem?_map, hy]; rfl
      rw [htw, Bool.true_and] at hq
      refine AW.skip ?_
      simp only [zs, simprocAttr]
      all_goals apply_assumption
      refine AW.seq_k fun K14 h14 => ?_
      refine AW.block ?_   -- 3
      refine AW.seq_k fun K15 h15 => ?_
      refine AW.reg0 ?_
      iterate 5 refine S.one (J7 e6 e1 l1 hjl hgy @nd @List.length_map.{0,0}) ?_
      have q4q := J7 e6 e1 l1 hjl hgy @nd @List.length_map.{0,0}
      (refine S.g rfl rfl fun Y Z => ?_; simp only [zz, simprocAttr, q4q]; (first | refine PCalls.eqto (rVars_spec x (hn.kid hxm)) ?_ | refine PCalls.eqto (rVars_spec y (hn.kid hym)) ?_) <;> (refine Z _ _ ?_; clear Z Y))
      all_goals refine S.one q4q ?_
      all_goals (refine S.nil ?_; simp only [ze, simprocAttr, q4q]; apply_assumption)
      all_goals refine AW.sr trivial ?_
      refine AW.block ?_   -- 4
      refine AW.loop (fun m3 s σ => σ = Hp.empty ∧ ∃ k : Nat, m3 + k = y.vars.length ∧ s.t 8 = .c (.int .i64 (k : Nat)) ∧ s.t 7 = .sl (y.vars.map encS) ∧ s.t 6 = .c (.int .i64 (j : Nat)) ∧ s.t 5 = .sl (x.vars.map encS) ∧ s.t 3 = .c (.int .i64 (i : Nat)) ∧ s.t 1 = .lp 1 0 ∧ s.l 1 = some [.c (.int .i64 n.kind), .c (.string n.var), .c (.string n.type), .sl (n.tests.map encC), .sl (n.kids.map encNd)] ∧ (y.vars.take k).any (hasS x.vars) = false) y.vars.length ?_ ?_
      · refine ⟨rfl, 0, by simp, ?_⟩
        simp only [zs, simprocAttr, e1, l1, e3, e5, e6]
        all_goals exact fn1
      rintro m3 s σ ⟨rfl, k, hm3, e8, e7, e6, e5, e3, e1, l1, hr⟩
      refine AW.seq_k fun K17 h17 => ?_
      all_goals refine AW.sr (J3 e8 e7 @List.length_map.{0,0}) ?_
      refine AW.cd (decide (k < y.vars.length)) (fun hk => ?_) (fun hk => ?_)
      · have hk := of_decide_eq_true hk
        obtain ⟨z, hz, hgz, hdz⟩ := str_get hk
        have hw3 := wadd1 (a := k) (by omega)
        have hst := any_step (p := hasS x.vars) hz
        refine AW.skip ?_
        simp only [zs, simprocAttr]
        all_goals apply_assumption
        refine AW.seq_k fun K19 h19 => ?_
        refine AW.block ?_   -- 5
        refine AW.seq_k fun K20 h20 => ?_
        refine AW.reg0 ?_
        iterate 5 refine S.one (J6 e5 e7 e8 hk hgz @List.length_map.{0,0}) ?_
        have q5q := J6 e5 e7 e8 hk hgz @List.length_map.{0,0}
        (refine S.g rfl rfl fun Y Z => ?_; simp only [zz, simprocAttr, q5q]; refine PCalls.eqto (rhasS_spec _ _ (by omega)) ?_ <;> (refine Z _ _ ?_; clear Z Y))
        all_goals (refine S.nil ?_; simp only [ze, simprocAttr, q5q]; apply_assumption)
        refine AW.cond (b := hasS x.vars z) (by simp [ev]) (fun hc => ?_) (fun hc => ?_)
        · refine AW.sr trivial ?_
          refine AW.ret ?_
          simp only [zs, simprocAttr]
          have hmt : meets x.vars y.vars = true := any_mem hz hc
          have hin : ((n.kids.take i).map Nd.vars)[j]? = some y.vars := by rw [List.map_take, List.getElem?_take_of_lt hj, hyv]
          have han : ((n.kids.take i).map Nd.vars).any (meets x.vars) = true := any_mem hin hmt
          all_goals ((try and_intros) <;> first | rfl | assumption | (rw [hp, htw, han]; rfl))
        · refine AW.skip ?_
          simp only [zs, simprocAttr]
          all_goals apply_assumption
          have q6q := J8 e8 hw3 e7 e6 e5 e3 e1 l1
          refine AW.reg0 (S.rn q6q ?_)
          simp only [ze, simprocAttr, q6q]
          refine ⟨m3 - 1, by omega, k + 1, by omega, ?_⟩
          all_goals ((try and_intros) <;> first | rfl | assumption | (rw [hst, hr, hc]; rfl))
      · have hk := of_decide_eq_false hk
        refine AW.exit ?_
        simp only [zs, simprocAttr]
        all_goals apply_assumption
        rw [List.take_of_length_le (by omega)] at hr
        have hst := any_step (p := meets x.vars) hyv
        have q7q := J6 e6 hw2 e5 e3 e1 l1
        refine AW.reg0 (S.rn q7q ?_)
        simp only [ze, simprocAttr, q7q]
        refine ⟨m2 - 1, by omega, j + 1, by omega, ?_⟩
        rw [← List.map_take, ← List.map_take, hq] at hst
        all_goals ((try and_intros) <;> first | rfl | assumption | ((rw [htw, hst]; exact hr)))
    · refine AW.exit ?_
      simp only [zs, simprocAttr]
      all_goals apply_assumption
      have hov : (twin n && ((n.kids.take i).map Nd.vars).any (meets x.vars)) = false := by
        cases ht : twin n with
        | false => rfl
        | true =>
          rw [ht] at hq hj
          have : ¬ j < i := by simpa using hj
          have : j = i := by omega
          rw [this] at hq; exact hq
      rw [hov, if_neg Bool.false_ne_true] at hp
      have htk : (n.kids.take (i + 1)).map Nd.vars = (n.kids.take i).map Nd.vars ++ [x.vars] := by rw [List.take_add_one, hx, List.map_append]; rfl
      have q8q := J4 e3 hw e1 l1
      refine AW.reg0 (S.rn q8q ?_)
      simp only [ze, simprocAttr, q8q]
      refine ⟨m - 1, by omega, i + 1, by omega, ?_⟩
      all_goals ((try and_intros) <;> first | rfl | assumption | ((rw [htk]; exact hp)))
  · have hi := of_decide_eq_false hi
    refine AW.exit ?_
    simp only [zs, simprocAttr]
    all_goals apply_assumption
    rw [List.drop_of_length_le (l := n.kids) (by omega)] at hp
    have hp : n.binds = 0 := hp
    refine AW.sr trivial ?_
    refine AW.ret ?_
    simp only [zs, simprocAttr]
    all_goals ((try and_intros) <;> first | rfl | assumption | (rw [hp]))
structure Pat where
  name : ByteArray
  within : Int
  node : Nd
  conds : List Cnd
def encPat (p : Pat) : List V := [.c (.string p.name), .c (.int .i64 p.within), .c (.int .i64 p.node.kind), .c (.string p.node.var), .c (.string p.node.type), .sl (p.node.tests.map encC), .sl (p.node.kids.map encNd), .sl (p.conds.map encC)]
structure okPat (p : Pat) : Prop where
  name : p.name.size < 4611686018427387904
  small : p.node.small
  ok : p.node.ok
  len : p.conds.length < 4611686018427387904
  conds : ∀ c ∈ p.conds, okC c
def patOwn (p : Pat) : Bool := !isName p.name || decide (p.within < 1) || decide (p.within > 1099511627776)
def patErr (p : Pat) : Int := if patOwn p then 70 else if p.node.shape = 0 then (if p.node.binds = 0 then cndsErr p.node.vars p.conds else p.node.binds) else p.node.shape
theorem rPattern_spec (p : Pat) (hp : okPat p) : PCalls Tryz.prog 45 [.agg (encPat p)] (fun v => v = .c (.int .i64 (patErr p))) := by
 have hE := (encNd_eq p.node).symm
 have hsz := p.node.vars_size
 have hsm : p.node.size ≤ 1048576 := hp.small
 refine PCalls.intro Tryz.call45 Tryz.func45 rfl Tryz.ntmps45 Tryz.results45 (by simp) ?_
 refine AW.sr @encPat.eq_1 ?_
 refine AW.seq_k fun K2 h2 => ?_
 refine AW.seq_j (fun s' σ' => σ' = Hp.empty ∧ s'.t 1 = .lp 1 0 ∧ s'.l 1 = some (encPat p) ∧ s'.t 21 = .c (.bool (patOwn p))) ?_ ?_
 ·skip
  refine AW.reg0 ?_
  iterate 2 refine S.one trivial ?_
  (refine S.cb trivial (rname_spec _ hp.name) fun b a10 => ?_; cases b <;> (try exact nope a10))
  all_goals iterate 4 refine S.one trivial ?_
  all_goals (first | (refine S.sp trivial fun b a15 => ?_; cases b <;> (try exact nope a15)) | refine S.one trivial ?_)
  all_goals iterate 6 refine S.one trivial ?_
  all_goals refine S.nil ?_
  all_goals simp only [ze, simprocAttr]
  all_goals simp_all [patOwn, encPat]
  all_goals omega
 rintro s σ ⟨rfl, e1, l1, e21⟩
 refine AW.cond (b := patOwn p) e21 (fun hb => ?_) (fun hb => ?_)
 ·refine AW.sr trivial ?_
  refine AW.ret ?_
  simp only [zs, simprocAttr]
  all_goals ((try and_intros) <;> first | rfl | assumption | (rw [patErr, if_pos hb]))
 have hs : patErr p = if p.node.shape = 0 then (if p.node.binds = 0 then cndsErr p.node.vars p.conds else p.node.binds) else p.node.shape := by rw [patErr, if_neg (by rw [hb]; exact Bool.false_ne_true)]
 refine AW.skip ?_
 all_goals simp only [zs, simprocAttr]
 all_goals apply_assumption
 refine AW.seq_k fun K4 h4 => ?_
 refine AW.seq_k fun K5 h5 => ?_
 all_goals refine AW.reg0 ?_
 all_goals iterate 2 refine S.one (J5 e1 l1 @encPat.eq_1 hE @nd) ?_
 all_goals have q1q := J5 e1 l1 @encPat.eq_1 hE @nd
 all_goals refine S.cl q1q (rShape_spec _ hp.small hp.ok) ?_
 all_goals refine S.one q1q ?_
 all_goals (refine S.nil ?_; simp only [ze, simprocAttr, q1q]; apply_assumption)
 all_goals refine AW.sr trivial ?_
 refine AW.cd (p.node.shape != 0) (fun hc => ?_) (fun hc => ?_)
 ·refine AW.sr trivial ?_
  refine AW.ret ?_
  simp only [zs, simprocAttr]
  all_goals ((try and_intros) <;> first | rfl | assumption | ((rw [hs, if_neg (by simpa using hc)])))
 have hc : p.node.shape = 0 := by simpa using hc
 rw [if_pos hc] at hs
 refine AW.skip ?_
 all_goals simp only [zs, simprocAttr]
 all_goals apply_assumption
 refine AW.seq_k fun K8 h8 => ?_
 refine AW.seq_k fun K9 h9 => ?_
 all_goals refine AW.reg0 ?_
 all_goals iterate 2 refine S.one (J5 e1 l1 @encPat.eq_1 hE @nd) ?_
 all_goals have q2q := J5 e1 l1 @encPat.eq_1 hE @nd
 all_goals refine S.cl q2q (rBinds_spec _ hp.small) ?_
 all_goals refine S.one q2q ?_
 all_goals (refine S.nil ?_; simp only [ze, simprocAttr, q2q]; apply_assumption)
 all_goals refine AW.sr trivial ?_
 refine AW.cd (p.node.binds != 0) (fun hc => ?_) (fun hc => ?_)
 ·refine AW.sr trivial ?_
  refine AW.ret ?_
  simp only [zs, simprocAttr]
  all_goals ((try and_intros) <;> first | rfl | assumption | ((rw [hs, if_neg (by simpa using hc)])))
 have hc : p.node.binds = 0 := by simpa using hc
 rw [if_pos hc] at hs
 refine AW.skip ?_
 all_goals simp only [zs, simprocAttr]
 all_goals apply_assumption
 refine AW.seq_k fun K12 h12 => ?_
 all_goals refine AW.sr (J4 e1 l1 @encPat.eq_1 @List.length_map.{0,0}) ?_
 refine AW.cd (decide ((p.conds.length : Int) > 16)) (fun hc => ?_) (fun hc => ?_)
 ·have hc : 16 < p.conds.length := by have := of_decide_eq_true hc; omega
  refine AW.sr trivial ?_
  refine AW.ret ?_
  simp only [zs, simprocAttr]
  all_goals ((try and_intros) <;> first | rfl | assumption | ((rw [hs]; simp [cndsErr, hc])))
 have hc16 : ¬ 16 < p.conds.length := by have := of_decide_eq_false hc; omega
 refine AW.skip ?_
 all_goals simp only [zs, simprocAttr]
 all_goals apply_assumption
 refine AW.seq_k fun K15 h15 => ?_
 all_goals refine AW.reg0 ?_
 all_goals iterate 2 refine S.one (J5 e1 l1 @encPat.eq_1 hE @nd) ?_
 all_goals have q3q := J5 e1 l1 @encPat.eq_1 hE @nd
 all_goals refine S.cl q3q (rVars_spec _ hp.small) ?_
 all_goals refine S.one q3q ?_
 all_goals (refine S.nil ?_; simp only [ze, simprocAttr, q3q]; apply_assumption)
 refine AW.seq_k fun K16 h16 => ?_
 all_goals refine AW.sr (J2 e1 l1) ?_
 refine AW.block ?_   -- 0
 refine AW.loop (fun m s σ => σ = Hp.empty ∧ ∃ i : Nat, m + i = p.conds.length ∧ s.t 6 = .c (.int .i64 (i : Nat)) ∧ s.t 5 = .sl (p.node.vars.map encS) ∧ s.t 1 = .lp 1 0 ∧ s.l 1 = some (encPat p) ∧ cndsBad p.node.vars p.conds = cndsBad p.node.vars (p.conds.drop i)) p.conds.length ?_ ?_
 ·refine ⟨rfl, 0, by simp, ?_⟩
  simp only [zs, simprocAttr, e1, l1]
  all_goals exact fn1
 rintro m s σ ⟨rfl, i, hm, e6, e5, e1, l1, hq⟩
 refine AW.seq_k fun K18 h18 => ?_
 all_goals refine AW.sr (J5 e6 e1 l1 @encPat.eq_1 @List.length_map.{0,0}) ?_
 refine AW.cd (decide (i < p.conds.length)) (fun hi => ?_) (fun hi => ?_)
 ·have hi := of_decide_eq_true hi
  obtain ⟨c, hx, hcm, hg, hd⟩ := cnd_get hi
  have hw := wadd1 (a := i) (by omega)
  rw [hd, cndsBad_cons] at hq
  refine AW.skip ?_
  simp only [zs, simprocAttr]
  all_goals apply_assumption
  refine AW.seq_k fun K20 h20 => ?_
  refine AW.block ?_   -- 1
  refine AW.seq_k fun K21 h21 => ?_
  refine AW.reg0 ?_
  iterate 6 refine S.one (J9 e6 e5 e1 l1 hi hg @cd @encPat.eq_1 @List.length_map.{0,0}) ?_
  have q4q := J9 e6 e5 e1 l1 hi hg @cd @encPat.eq_1 @List.length_map.{0,0}
  refine S.cl q4q (rCond_spec c p.node.vars (hp.conds c hcm) (by omega)) ?_
  all_goals refine S.one q4q ?_
  all_goals (refine S.nil ?_; simp only [ze, simprocAttr, q4q]; apply_assumption)
  all_goals refine AW.sr trivial ?_
  refine AW.cond (b := cndBad p.node.vars c) (by cases h : cndBad p.node.vars c <;> simp [ev]) (fun hb2 => ?_) (fun hb2 => ?_)
  ·refine AW.sr trivial ?_
   refine AW.ret ?_
   simp only [zs, simprocAttr]
   all_goals ((try and_intros) <;> first | rfl | assumption | ((rw [hs]; simp [cndsErr, hq, hb2])))
  ·refine AW.skip ?_
   simp only [zs, simprocAttr]
   all_goals apply_assumption
   rw [hb2, Bool.false_or] at hq
   have q5q := J5 e6 hw e5 e1 l1
   refine AW.reg0 (S.rn q5q ?_)
   simp only [ze, simprocAttr, q5q]
   refine ⟨m - 1, by omega, i + 1, by omega, ?_⟩
   all_goals ((try and_intros) <;> first | rfl | assumption | (exact hq))
 ·have hi := of_decide_eq_false hi
  refine AW.exit ?_
  simp only [zs, simprocAttr]
  all_goals apply_assumption
  rw [List.drop_of_length_le (by omega)] at hq
  have hq : cndsBad p.node.vars p.conds = false := hq
  refine AW.sr trivial ?_
  refine AW.ret ?_
  simp only [zs, simprocAttr]
  all_goals ((try and_intros) <;> first | rfl | assumption | ((rw [hs]; simp [cndsErr, hq, hc16])))
def eqEv (a b : Ev) : Bool := (a.src == b.src && a.seq == b.seq) && (a.time == b.time) && (a.type.toList == b.type.toList) && allEq eqAttr a.attrs b.attrs
def eqBd (a b : Bd) : Bool := (a.var.toList == b.var.toList) && eqEv a.ev b.ev
theorem rsame_ev (a b : Ev) (ha : a.attrs.length < 4611686018427387904) : PCalls Tryz.prog 56 [.agg (encEv a), .agg (encEv b)] (fun v => v = .c (.bool (eqEv a b))) := by
 refine PCalls.intro Tryz.call56 Tryz.func56 rfl Tryz.ntmps56 Tryz.results56 (by simp) ?_
 refine AW.sr @encEv.eq_1 ?_
 refine AW.seq_j (fun s' σ' => σ' = Hp.empty ∧ s'.t 4 = .c (.bool (eqEv a b))) ?_ ?_
 ·skip
  refine AW.region (T := { eqk := eqTab }) (eqTab_ok) rfl ?_
  iterate 4 refine S.one @encEv.eq_1 ?_
  (refine S.sp (J12 @eqk45 @fitsAll.eq_1 @fitsAll.eq_2 @fitsAll.eq_3 @SK.fits.eq_1 @SK.fits.eq_2 @SK.fits.eq_3 @SK.fits.eq_4 @cellsEq.eq_1 @cellsEq.eq_2 @cellsEq.eq_3 (J5 @cellEq.eq_1 @cellEq.eq_2 @cellEq.eq_3 @cellEq.eq_4 @encEv.eq_1)) fun b a9 => ?_; cases b <;> (try exact nope a9))
  all_goals iterate 5 refine S.one @encEv.eq_1 ?_
  all_goals (first | (refine S.sp @encEv.eq_1 fun b a15 => ?_; cases b <;> (try exact nope a15)) | refine S.one trivial ?_)
  all_goals iterate 6 refine S.one @encEv.eq_1 ?_
  all_goals (first | (refine S.sp @encEv.eq_1 fun b a22 => ?_; cases b <;> (try exact nope a22)) | refine S.one trivial ?_)
  all_goals iterate 6 refine S.one @encEv.eq_1 ?_
  all_goals (first | (refine S.cl @encEv.eq_1 (rsame_attrs _ _ (by assumption)) ?_) | refine S.one trivial ?_)
  all_goals iterate 2 refine S.one @encEv.eq_1 ?_
  all_goals refine S.nil ?_
  all_goals simp only [ze, simprocAttr, encEv]
  all_goals simp_all [eqEv]
 rintro s σ ⟨rfl, e4⟩
 refine AW.ret ?_
 all_goals simp only [zs, simprocAttr, e4]
theorem rsame_part (l r : List Bd) (hl : l.length < 4611686018427387904) (hla : ∀ b ∈ l, b.ev.attrs.length < 4611686018427387904) : PCalls Tryz.prog 23 [.agg [.sl (l.map encBd)], .agg [.sl (r.map encBd)]] (fun v => v = .c (.bool (allEq eqBd l r))) := by
 refine PCalls.intro Tryz.call23 Tryz.func23 rfl Tryz.ntmps23 Tryz.results23 (by simp) ?_
 refine AW.sr trivial ?_
 refine AW.seq_k fun K2 h2 => ?_
 refine AW.sr trivial ?_
 refine AW.cd (((l.length : Int) != r.length)) (fun hc => ?_) (fun hc => ?_)
 ·refine AW.sr trivial ?_
  refine AW.ret ?_
  simp only [zs, simprocAttr]
  rw [allEq_len (by simp at hc; omega)]
 ·refine AW.skip ?_
  simp only [zs, simprocAttr]
  all_goals apply_assumption
  have hlr : l.length = r.length := by simp at hc; omega
  refine AW.seq_k fun K5 h5 => ?_
  refine AW.sr trivial ?_
  refine AW.block ?_   -- 0
  refine AW.loop (fun m s σ => σ = Hp.empty ∧ ∃ i : Nat, m + i = l.length ∧ s.t 2 = .lp 2 0 ∧ s.l 2 = some [.sl (l.map encBd)] ∧ s.t 3 = .lp 3 0 ∧ s.l 3 = some [.sl (r.map encBd)] ∧ s.t 5 = .c (.int .i64 i) ∧ allEq eqBd l r = allEq eqBd (l.drop i) (r.drop i)) l.length ?_ ?_
  ·refine ⟨rfl, 0, by simp, ?_⟩
   simp only [zs, simprocAttr]
   simp
  rintro m s σ ⟨rfl, i, hm, e2, l2, e3, l3, e5, hp⟩
  refine AW.seq_k fun K7 h7 => ?_
  all_goals refine AW.sr (J3 e5 e2 l2) ?_
  refine AW.cd (decide (i < l.length)) (fun hc => ?_) (fun hc => ?_)
  ·refine AW.skip ?_
   simp only [zs, simprocAttr]
   all_goals apply_assumption
   have hi : i < l.length := by simpa using hc
   have hj : i < r.length := by omega
   have hg := getD_map (f := encBd) hi
   have hg2 := getD_map (f := encBd) hj
   have hd : l.drop i = l[i] :: l.drop (i + 1) := List.drop_eq_getElem_cons hi
   have hd2 : r.drop i = r[i] :: r.drop (i + 1) := List.drop_eq_getElem_cons hj
   have hn1 := hla _ (List.getElem_mem hi)
   generalize ha : l[i] = a at hg hd hn1
   generalize hb : r[i] = b at hg2 hd2
   rw [hd, hd2, allEq] at hp
   have hw : IntKind.i64.wrap ((i : Int) + 1) = ((i + 1 : Nat) : Int) := by rw [wrap_small _ (by omega) (by omega)]; rfl
   refine AW.seq_k fun K9 h9 => ?_
   refine AW.block ?_   -- 1
   refine AW.seq_j (fun s' σ' => σ' = Hp.empty ∧ s'.t 2 = .lp 2 0 ∧ s'.l 2 = some [.sl (l.map encBd)] ∧ s'.t 3 = .lp 3 0 ∧ s'.l 3 = some [.sl (r.map encBd)] ∧ s'.t 5 = .c (.int .i64 i) ∧ s'.t 48 = .c (.bool (!eqBd a b))) ?_ ?_
   ·clear hp hd hd2
    refine AW.dv { sd := fun d => d == 2 || d == 3 } [(0,0),(2,0),(6,0),(8,0),(1,1),(3,0),(4,0),(5,1),(7,1),(9,0),(10,0),(11,1),(12,0),(13,0),(14,0),(16,0),(20,0),(22,0),(15,1),(17,0),(18,0),(19,1),(21,1),(23,0),(24,0),(25,1),(26,2),(27,0),(28,0)] ?_
    have q1q := J10 e2 l2 e3 l3 e5 hi hj hg hg2 @encBd.eq_1
    iterate 12 refine D.one q1q ?_
    (refine D.sp q1q fun b a32 => ?_; cases b <;> (try exact nope a32))
    all_goals iterate 13 refine D.one q1q ?_
    all_goals have q2q := J10 e2 l2 e3 l3 e5 hi hj hg hg2 @encBd.eq_1
    all_goals (first | (refine D.cl q2q (rsame_ev _ _ (by assumption)) ?_) | refine D.one trivial ?_)
    all_goals iterate 2 refine D.one q2q ?_
    all_goals refine D.nil ?_
    all_goals simp only [ze, simprocAttr, q2q]
    all_goals simp_all [eqBd]
   rintro s1 σ1 ⟨rfl, f2, k2, f3, k3, f5, f48⟩
   refine AW.cond (b := !eqBd a b) f48 (fun hc => ?_) (fun hc => ?_)
   ·refine AW.sr trivial ?_
    refine AW.ret ?_
    simp only [zs, simprocAttr]
    have hx : eqBd a b = false := by simpa using hc
    simp [hp, hx]
   ·refine AW.skip ?_
    simp only [zs, simprocAttr]
    all_goals apply_assumption
    have hx : eqBd a b = true := by simpa using hc
    refine AW.reg0 (S.rn (J2 f5 hw) ?_)
    simp only [ze, simprocAttr, f5, hw]
    refine ⟨m - 1, by omega, i + 1, by omega, f2, k2, f3, k3, rfl, ?_⟩
    rw [hp, hx, Bool.true_and]
  ·refine AW.exit ?_
   simp only [zs, simprocAttr]
   -- EXIT 0
   all_goals apply_assumption
   refine AW.sr trivial ?_
   refine AW.ret ?_
   simp only [zs, simprocAttr]
   have hi : l.length ≤ i := by simpa using hc
   simp [hp, List.drop_of_length_le hi, List.drop_of_length_le (hlr ▸ hi), allEq]
def cmpS (a b : ByteArray) : Int := if Op.bytesLess a.toList b.toList then -1 else if (Op.bytesLess a.toList b.toList || a.toList == b.toList) then 0 else 1
theorem isnan_spec (a : ByteArray) : PCalls Tryz.prog 167 [.c (.string a)] (fun v => v = .c (.bool false)) := by
 refine PCalls.intro Tryz.call167 Tryz.func167 rfl Tryz.ntmps167 Tryz.results167 (by simp) ?_
 all_goals refine AW.sr trivial ?_
 all_goals refine AW.sr trivial ?_
 refine AW.ret ?_
 all_goals simp only [zs, simprocAttr]
 all_goals simp
theorem compare_str (a b : ByteArray) : PCalls Tryz.prog 136 [.c (.string a), .c (.string b)] (fun v => v = .c (.int .i64 (cmpS a b))) := by
 refine PCalls.intro Tryz.call136 Tryz.func136 rfl Tryz.ntmps136 Tryz.results136 (by simp) ?_
 refine AW.sr trivial ?_
 refine AW.seq_k fun K2 h2 => ?_
 refine AW.reg0 ?_
 refine S.one trivial ?_
 refine S.cl trivial (isnan_spec _) ?_
 all_goals refine S.one trivial ?_
 all_goals (refine S.nil ?_; simp only [ze, simprocAttr]; apply_assumption)
 refine AW.seq_k fun K3 h3 => ?_
 all_goals refine AW.reg0 ?_
 all_goals refine S.one trivial ?_
 all_goals refine S.cl trivial (isnan_spec _) ?_
 all_goals refine S.one trivial ?_
 all_goals (refine S.nil ?_; simp only [ze, simprocAttr]; apply_assumption)
 refine AW.seq_k fun K4 h4 => ?_
 all_goals refine AW.sr trivial ?_
 refine AW.cd false (fun hc => by cases hc) (fun hc => ?_)
 refine AW.skip ?_
 all_goals simp only [zs, simprocAttr]
 all_goals apply_assumption
 refine AW.seq_k fun K6 h6 => ?_
 all_goals refine AW.sr trivial ?_
 refine AW.cd false (fun hc => by cases hc) (fun hc => ?_)
 refine AW.skip ?_
 all_goals simp only [zs, simprocAttr]
 all_goals apply_assumption
 refine AW.seq_k fun K8 h8 => ?_
 all_goals refine AW.sr trivial ?_
 refine AW.cd (Op.bytesLess a.toList b.toList) (fun hc => ?_) (fun hc => ?_)
 ·refine AW.sr trivial ?_
  refine AW.ret ?_
  simp only [zs, simprocAttr]
  simp [cmpS, hc]
 ·refine AW.skip ?_
  simp only [zs, simprocAttr]
  all_goals apply_assumption
  refine AW.seq_k fun K11 h11 => ?_
  refine AW.sr trivial ?_
  refine AW.cd (!(Op.bytesLess a.toList b.toList || a.toList == b.toList)) (fun hc2 => ?_) (fun hc2 => ?_)
  ·refine AW.sr trivial ?_
   refine AW.ret ?_
   simp only [zs, simprocAttr]
   rw [Bool.not_eq_true'] at hc2
   rw [cmpS, if_neg (by rw [hc]; simp), if_neg (by rw [hc2]; simp)]
  ·refine AW.skip ?_
   simp only [zs, simprocAttr]
   all_goals apply_assumption
   refine AW.sr trivial ?_
   refine AW.ret ?_
   simp only [zs, simprocAttr]
   rw [Bool.not_eq_false'] at hc2
   rw [cmpS, if_neg (by rw [hc]; simp), if_pos hc2]
theorem less_spec (a b : Bd) : PCalls Tryz.prog 141 [.agg (encBd a), .agg (encBd b)] (fun v => v = .c (.int .i64 (cmpS a.var b.var))) := by
 refine PCalls.intro Tryz.call141 Tryz.func141 rfl Tryz.ntmps141 Tryz.results141 (by simp) ?_
 refine AW.sr @encBd.eq_1 ?_
 refine AW.seq_k fun K2 h2 => ?_
 refine AW.reg0 ?_
 iterate 4 refine S.one trivial ?_
 refine S.cl trivial (compare_str _ _) ?_
 all_goals refine S.one trivial ?_
 all_goals (refine S.nil ?_; simp only [ze, simprocAttr]; apply_assumption)
 refine AW.ret ?_
 all_goals simp only [zs, simprocAttr]
theorem grow_spec (n : Nat) (hn : n * 80 ≤ 140737488355328) : ACalls Tryz.prog 170 [.c (.slice none 0 0), .c (.int .i64 n)] Hp.empty (fun v σ' => (v = .c (.slice none 0 0) ∧ σ' = Hp.empty ∧ n = 0) ∨ ∃ k, v = .gl k ∧ σ' = Hp.empty.setGr k (some ((50, 6), []))) := by
 refine ACalls.introR Tryz.call170 Tryz.func170 rfl Tryz.ntmps170 Tryz.results170 (by simp) ?_
 refine AW.sr trivial ?_
 refine AW.seq_k fun K2 h2 => ?_
 refine AW.sr trivial ?_
 refine AW.cd (decide ((n : Int) < 0)) (fun hc => ?_) (fun hc => ?_)
 ·have := of_decide_eq_true hc; omega
 refine AW.skip ?_
 all_goals simp only [zs, simprocAttr]
 all_goals apply_assumption
 have hw : IntKind.i64.wrap ((n : Int) - 0) = (n : Int) := by rw [wrap_small _ (by omega) (by omega)]; omega
 have hw0 : IntKind.i64.wrap (0 - ((0 : Nat) : Int)) = 0 := by rw [wrap_small _ (by omega) (by omega)]; rfl
 refine AW.seq_k fun K4 h4 => ?_
 all_goals refine AW.sr (J2 hw hw0) ?_
 all_goals refine AW.sr trivial ?_
 refine AW.cd (decide ((n : Int) > 0)) (fun hc => ?_) (fun hc => ?_)
 ·have hn0 : 0 < n := by have := of_decide_eq_true hc; omega
  refine AW.reg0 ?_
  iterate 5 refine S.one trivial ?_
  (refine S.g rfl rfl fun Y Z => ?_; simp only [zz, simprocAttr, -Int.reduceNatCast', -Int.reduceToNat, tt, (Tryz.underlying3), TypeDesc.int.injEq]; (first | refine ⟨by omega, by unfold maxLen; omega, by unfold reach; omega, fun k1 hk1 => ?_⟩ | refine ⟨rfl, by omega, by unfold maxLen; omega, by unfold reach; omega, fun k1 hk1 => ?_⟩) <;> (refine Z _ _ ?_; clear Z Y))
  all_goals iterate 2 refine S.one trivial ?_
  all_goals (refine S.g rfl rfl fun Y Z => ?_; simp only [zz, simprocAttr, -Int.reduceNatCast', -Int.reduceToNat, tt]; (first | refine ⟨Nat.zero_le _, fun k2 hk2 => ?_⟩ | refine fun k2 hk2 => ?_) <;> (refine Z _ _ ?_; clear Z Y))
  all_goals refine S.one trivial ?_
  all_goals (refine S.nil ?_; simp only [ze, simprocAttr]; apply_assumption)
  all_goals refine AW.sr trivial ?_
  refine AW.ret ?_
  all_goals simp only [zs, simprocAttr]
  exact .inr ⟨k2, rfl, rfl⟩
 ·have hn0 : n = 0 := by have := of_decide_eq_false hc; omega
  refine AW.skip ?_
  simp only [zs, simprocAttr]
  all_goals apply_assumption
  refine AW.sr trivial ?_
  refine AW.ret ?_
  simp only [zs, simprocAttr]
  exact .inl hn0
set_option maxRecDepth 100000
theorem bytealg_cmp (a b : ByteArray) (w : World) :
  Calls Tryz.prog 197 #[.string a, .string b] w fun e w' => e = .returned (.int .i64 (Lib.compareBytes a.data.toList b.data.toList)) ∧ w' = w := by
 go_enter Tryz.func197, Tryz.ntmps197
 go_wp2
 rw [run_callFunc_extern Tryz.func203 (by kernel_rfl) (by kernel_rfl) (by kernel_rfl) (e := Extern.BytealgCompare.compare) (by kernel_rfl), Lib.run_compareString]
 simp only [Result.andThen]
 rw [Oper.upon_value]
 go_wp2
 go_ret
 exact ⟨rfl, rfl⟩
theorem strings_cmp (a b : ByteArray) (w : World) :
  Calls Tryz.prog 178 #[.string a, .string b] w fun e w' => e = .returned (.int .i64 (Lib.compareBytes a.data.toList b.data.toList)) ∧ w' = w := by
 go_enter Tryz.func178, Tryz.ntmps178
 go_wp2_with (go_at_call 197; refine (bytealg_cmp _ _ _).mono ?_; rintro e w' ⟨rfl, rfl⟩)
 go_ret
 exact ⟨rfl, rfl⟩
theorem compareBytes_cmp : ∀ a b : List UInt8, Lib.compareBytes a b = if Op.bytesLess a b then -1 else if (Op.bytesLess a b || a == b) then 0 else 1
  | [], [] => rfl
  | [], _ :: _ => rfl
  | _ :: _, [] => rfl
  | a :: x, b :: y => by
    rw [Lib.compareBytes, Op.bytesLess]
    by_cases h1 : a < b
    · simp [h1]
    · by_cases h2 : b < a
      · have : ¬ a = b := fun e => by subst e; exact h1 h2
        simp [h1, h2, this]
      · have : a = b := by
          apply UInt8.toNat_inj.1
          rw [UInt8.lt_iff_toNat_lt] at h1 h2
          omega
        subst this
        rw [if_neg h1, if_neg h1, compareBytes_cmp x y]
        simp [h1]
theorem strcmp_spec (a b : ByteArray) : PCalls Tryz.prog 178 [.c (.string a), .c (.string b)] (fun v => v = .c (.int .i64 (cmpS a b))) := by
 have h := PCalls.ofSame (P := Tryz.prog) (f := 178) (vs := [.string a, .string b]) (r := .int .i64 (Lib.compareBytes a.data.toList b.data.toList)) Tryz.call178 (fun w => strings_cmp a b w)
 rw [compareBytes_cmp] at h
 unfold cmpS
 rw [ByteArray.toList_eq, ByteArray.toList_eq]
 exact h
def encL (l : List Bd) : List V := [.sl (l.map encBd)]
def tot (ls : List (List Bd)) : Nat := (ls.map List.length).sum
theorem tot_snoc (ls : List (List Bd)) (l : List Bd) : tot (ls ++ [l]) = tot ls + l.length := by simp [tot]
theorem tot_take (ls : List (List Bd)) (i : Nat) : tot (ls.take i) ≤ tot ls := by
 have : tot ls = tot (ls.take i) + tot (ls.drop i) := by
  simp only [tot, List.map_take, List.map_drop]
  rw [← List.sum_append, List.take_append_drop]
 omega
theorem flat_tot (ls : List (List Bd)) : ls.flatten.length = tot ls := by simp [tot, List.length_flatten]
theorem of_spec (nm : ByteArray) (e : Ev) (hp : okP [⟨nm, e⟩]) (hl : e.attrs.length * 48 ≤ 140737488355328) : PCalls Tryz.prog 67 [.c (.string nm), .agg (encEv e)]
  (fun v => v = if partErr [⟨nm, e⟩] ≠ 0 then .tup [.agg [.sl []], .c (.int .i64 (partErr [⟨nm, e⟩]))] else .tup [.agg [.sl ([(⟨nm, e⟩ : Bd)].map encBd)], .c (.int .i64 0)]) := by
 refine PCalls.intro Tryz.call67 Tryz.func67 rfl Tryz.ntmps67 Tryz.results67 (by simp) ?_
 refine AW.sr @encEv.eq_1 ?_
 refine AW.seq_k fun K2 h2 => ?_
 refine AW.reg0 ?_
 iterate 2 refine S.one @encEv.eq_1 ?_
 refine S.cl @encEv.eq_1 (clone_ev _ (by assumption)) ?_
 iterate 5 (refine S.g rfl rfl fun Y Z => ?_; simp only [zb, simprocAttr, tt, encEv]; refine Z _ _ ?_; clear Z Y)
 (refine S.nil ?_; simp only [ze, simprocAttr, encEv]; apply_assumption)
 refine AW.seq_k fun K3 h3 => ?_
 refine AW.seq_k fun K4 h4 => ?_
 refine AW.reg0 ?_
 refine S.one trivial ?_
 refine S.cl trivial (check_part [⟨nm, e⟩] (by assumption)) ?_
 refine S.one trivial ?_
 (refine S.nil ?_; simp only [ze, simprocAttr]; apply_assumption)
 refine AW.sr trivial ?_
 refine AW.cd (partErr [⟨nm, e⟩] != 0) (fun hc => ?_) (fun hc => ?_)
 ·have hx : partErr [⟨nm, e⟩] ≠ 0 := by simpa using hc
  refine AW.sr trivial ?_
  refine AW.ret ?_
  simp only [zs, simprocAttr, qLoad, tt, cut, List.drop_zero, List.take_succ_cons, List.take_zero, List.map]
  exact (if_pos hx).symm
 ·have hx : ¬ partErr [⟨nm, e⟩] ≠ 0 := by simpa using hc
  refine AW.skip ?_
  simp only [zs, simprocAttr]
  all_goals apply_assumption
  refine AW.sr trivial ?_
  refine AW.ret ?_
  simp only [zs, simprocAttr, qLoad, tt, cut, List.drop_zero, List.take_succ_cons, List.take_zero, List.map, encBd]
  exact (if_neg hx).symm
def encI (n : Int) : List V := [.c (.int .i64 n)]
theorem len_int (l : List Int) : ∀ (e : List V), e ∈ l.map encI → e.length = 1 := fun e he => by
 obtain ⟨a, _, rfl⟩ := List.mem_map.1 he; rfl
theorem times_spec (l : List Bd) (hn : l.length * 80 ≤ 140737488355328) : PCalls Tryz.prog 122 [.agg [.sl (l.map encBd)]] (fun v => v = .sl ((l.map (·.ev.time)).map encI)) := by
 refine PCalls.intro Tryz.call122 Tryz.func122 rfl Tryz.ntmps122 Tryz.results122 (by simp) ?_
 refine AW.sr trivial ?_
 refine AW.sr trivial ?_
 refine AW.seq_k fun K3 h3 => ?_
 refine AW.sr trivial ?_
 refine AW.block ?_   -- 0
 refine AW.loop (fun m s σ => ∃ i : Nat, m + i = l.length ∧ s.t 7 = .sl (l.map encBd) ∧ s.t 8 = .c (.int .i64 l.length) ∧ s.t 9 = .c (.int .i64 i) ∧
  ((i = 0 ∧ s.t 3 = .c (.slice none 0 0) ∧ σ = Hp.empty) ∨ ∃ k, s.t 3 = .gl k ∧ σ = Hp.empty.setGr k (some ((2, 1), ((l.take i).map (·.ev.time)).map encI)))) l.length ?_ ?_
 ·refine ⟨0, by simp, ?_⟩
  simp only [zs, simprocAttr]
  simp
 rintro m s σ ⟨i, hm, e7, e8, e9, hk⟩
 refine AW.sr (J2 e9 e8) ?_
 refine AW.seq_k fun K6 h6 => ?_
 refine AW.cd (decide (i < l.length)) (fun hc => ?_) (fun hc => ?_)
 ·refine AW.skip ?_
  simp only [zs, simprocAttr]
  all_goals apply_assumption
  have hi : i < l.length := by simpa using hc
  have hg := getD_map (f := encBd) hi
  have htk : l.take (i + 1) = l.take i ++ [l[i]] := by rw [List.take_append_getElem]
  generalize ha : l[i] = a at hg htk
  have hw : IntKind.i64.wrap ((i : Int) + 1) = ((i + 1 : Nat) : Int) := by rw [wrap_small _ (by omega) (by omega)]; rfl
  have htl : (l.take i).length = i := by rw [List.length_take]; omega
  refine AW.seq_k fun K7 h7 => ?_
  refine AW.block ?_   -- 1
  refine AW.sr (J5 e7 e9 hi hg @encBd.eq_1) ?_
  rcases hk with ⟨rfl, e3, rfl⟩ | ⟨k, e3, rfl⟩
  ·skip
   refine AW.reg0 ?_
   iterate 5 (refine S.g rfl rfl fun Y Z => ?_; simp only [zb, simprocAttr, tt, e3]; refine Z _ _ ?_; clear Z Y)
   (refine S.g rfl rfl fun Y Z => ?_; simp only [zz, simprocAttr, tt, e3]; refine ⟨len_int [a.ev.time], by unfold maxLen; omega, by unfold reach; omega, fun k2 hk2 => ?_⟩ <;> (refine Z _ _ ?_; clear Z Y))
   refine S.one e3 ?_
   (refine S.nil ?_; simp only [ze, simprocAttr, e3]; apply_assumption)
   have q1q := J4 e9 hw e7 e8
   refine AW.reg0 (S.rn q1q ?_)
   simp only [ze, simprocAttr, q1q]
   refine ⟨m - 1, by omega, 1, by omega, rfl, .inr ⟨k2, rfl, ?_⟩⟩
   rw [show l.take 1 = [] ++ [a] from htk]; rfl
  ·skip
   refine AW.reg0 ?_
   iterate 5 (refine S.g rfl rfl fun Y Z => ?_; simp only [zb, simprocAttr, tt, e3, htl]; refine Z _ _ ?_; clear Z Y)
   (refine S.g rfl rfl fun Y Z => ?_; simp only [zz, simprocAttr, tt, e3, htl]; refine ⟨len_int [a.ev.time], by unfold maxLen; omega, by unfold reach; omega, fun k2 hk2 => ?_⟩ <;> (refine Z _ _ ?_; clear Z Y))
   refine S.one (J2 e3 htl) ?_
   (refine S.nil ?_; simp only [ze, simprocAttr, e3, htl]; apply_assumption)
   have q2q := J4 e9 hw e7 e8
   refine AW.reg0 (S.rn q2q ?_)
   simp only [ze, simprocAttr, q2q]
   refine ⟨m - 1, by omega, i + 1, by omega, rfl, .inr ⟨k2, rfl, ?_⟩⟩
   rw [htk, List.map_append, List.map_append]
   rfl
 ·refine AW.exit ?_
  simp only [zs, simprocAttr]
  -- EXIT 0
  all_goals apply_assumption
  have hi : l.length ≤ i := by simpa using hc
  rcases hk with ⟨rfl, e3, rfl⟩ | ⟨k, e3, rfl⟩
  ·have h0 : l = [] := List.eq_nil_of_length_eq_zero (by omega)
   refine AW.sr e3 ?_
   refine AW.ret ?_
   simp only [zs, simprocAttr, h0, List.map]
  ·rw [List.take_of_length_le hi]
   refine AW.sr e3 ?_
   refine AW.freeze (k := k) (T := (2, 1)) (es := (l.map (·.ev.time)).map encI) (by simp only [Hp.setGr_gr, if_true]) (AW.bare (AW.ret ?_))
   simp only [zs, simprocAttr, fzV, fz1, St.fz_t, St.fz_l]
def minL (a : Int) (r : List Int) : Int := r.foldl (fun m b => if b < m then b else m) a
theorem min_spec (a : Int) (r : List Int) (hn : r.length < 4611686018427387904) : PCalls Tryz.prog 121 [.sl ((a :: r).map encI)] (fun v => v = .c (.int .i64 (minL a r))) := by
 refine PCalls.intro Tryz.call121 Tryz.func121 rfl Tryz.ntmps121 Tryz.results121 (by simp) ?_
 have hlen : (a :: r).length = r.length + 1 := rfl
 have hg0 : ((a :: r).map encI).getD 0 [] = encI a := rfl
 have hlm : ((a :: r).map encI).length = r.length + 1 := by simp
 generalize hes : (a :: r).map encI = es at hg0 hlm ⊢
 refine AW.sr trivial ?_
 have hw0 : IntKind.i64.wrap ((r.length : Int) + 1) = ((r.length + 1 : Nat) : Int) := by rw [wrap_small _ (by omega) (by omega)]; rfl
 refine AW.seq_k fun K2 h2 => ?_
 refine AW.sr hlm ?_
 refine AW.cd (decide (((r.length + 1 : Nat) : Int) < 1)) (fun hc => ?_) (fun hc => ?_)
 ·have := of_decide_eq_true hc; omega
 refine AW.skip ?_
 all_goals simp only [zs, simprocAttr]
 all_goals apply_assumption
 have h00 : (0 : Int) < ((r.length + 1 : Nat) : Int) := by omega
 all_goals refine AW.sr (J6 hlm hg0 @encI.eq_1 h00 @Int.toNat_zero @Int.le_refl) ?_
 refine AW.seq_k fun K5 h5 => ?_
 all_goals refine AW.sr trivial ?_
 refine AW.block ?_   -- 0
 refine AW.loop (fun m s σ => σ = Hp.empty ∧ ∃ j : Nat, m + j = r.length ∧ s.t 0 = .sl es ∧ s.t 4 = .c (.int .i64 ((j + 1 : Nat) : Int)) ∧ s.t 3 = .c (.int .i64 (minL a (r.take j)))) r.length ?_ ?_
 ·refine ⟨rfl, 0, by simp, ?_⟩
  simp only [zs, reduceIte, Nat.reduceEqDiff, Nat.reduceLT, Nat.reduceLeDiff, Nat.reduceAdd, reduceCtorEq, Nat.reduceMul]
  exact ⟨rfl, rfl⟩
 rintro m s σ ⟨rfl, j, hm, e0, e4, e3⟩
 refine AW.seq_k fun K7 h7 => ?_
 all_goals refine AW.sr (J3 e0 e4 hlm) ?_
 refine AW.cd (decide (j + 1 < r.length + 1)) (fun hc => ?_) (fun hc => ?_)
 ·refine AW.skip ?_
  simp only [zs, simprocAttr]
  all_goals apply_assumption
  have hj : j < r.length := by have := of_decide_eq_true hc; omega
  have hj1 : j + 1 < r.length + 1 := by omega
  have hg : es.getD (j + 1) [] = encI r[j] := by rw [← hes]; simp [hj]
  have htk : r.take (j + 1) = r.take j ++ [r[j]] := by rw [List.take_append_getElem]
  have hw : IntKind.i64.wrap (((j + 1 : Nat) : Int) + 1) = ((j + 1 + 1 : Nat) : Int) := by rw [wrap_small _ (by omega) (by omega)]; rfl
  generalize hb : r[j] = b at hg htk
  refine AW.seq_k fun K9 h9 => ?_
  refine AW.block ?_   -- 1
  refine AW.reg0 (S.rn (J7 e0 e4 e3 hlm hg @encI.eq_1 hj1) ?_)
  all_goals apply_assumption
  refine AW.reg0 (S.rn (J2 e4 hw) ?_)
  simp only [ze, simprocAttr, e4, hw]
  refine ⟨m - 1, by omega, j + 1, by omega, e0, rfl, ?_⟩
  rw [htk]
  simp only [minL, List.foldl_append, List.foldl_cons, List.foldl_nil]
  first | done | rfl | (congr 1)
 ·refine AW.exit ?_
  simp only [zs, simprocAttr]
  -- EXIT 0
  all_goals apply_assumption
  have hj : r.length ≤ j := by have := of_decide_eq_false hc; omega
  rw [List.take_of_length_le hj] at e3
  refine AW.sr e3 ?_
  refine AW.ret ?_
  simp only [zs, simprocAttr]
def maxL (a : Int) (r : List Int) : Int := r.foldl (fun m b => if m < b then b else m) a
theorem max_spec (a : Int) (r : List Int) (hn : r.length < 4611686018427387904) : PCalls Tryz.prog 123 [.sl ((a :: r).map encI)] (fun v => v = .c (.int .i64 (maxL a r))) := by
 refine PCalls.intro Tryz.call123 Tryz.func123 rfl Tryz.ntmps123 Tryz.results123 (by simp) ?_
 have hlen : (a :: r).length = r.length + 1 := rfl
 have hg0 : ((a :: r).map encI).getD 0 [] = encI a := rfl
 have hlm : ((a :: r).map encI).length = r.length + 1 := by simp
 generalize hes : (a :: r).map encI = es at hg0 hlm ⊢
 refine AW.sr trivial ?_
 have hw0 : IntKind.i64.wrap ((r.length : Int) + 1) = ((r.length + 1 : Nat) : Int) := by rw [wrap_small _ (by omega) (by omega)]; rfl
 refine AW.seq_k fun K2 h2 => ?_
 refine AW.sr hlm ?_
 refine AW.cd (decide (((r.length + 1 : Nat) : Int) < 1)) (fun hc => ?_) (fun hc => ?_)
 ·have := of_decide_eq_true hc; omega
 refine AW.skip ?_
 all_goals simp only [zs, simprocAttr]
 all_goals apply_assumption
 have h00 : (0 : Int) < ((r.length + 1 : Nat) : Int) := by omega
 all_goals refine AW.sr (J6 hlm hg0 @encI.eq_1 h00 @Int.toNat_zero @Int.le_refl) ?_
 refine AW.seq_k fun K5 h5 => ?_
 all_goals refine AW.sr trivial ?_
 refine AW.block ?_   -- 0
 refine AW.loop (fun m s σ => σ = Hp.empty ∧ ∃ j : Nat, m + j = r.length ∧ s.t 0 = .sl es ∧ s.t 4 = .c (.int .i64 ((j + 1 : Nat) : Int)) ∧ s.t 3 = .c (.int .i64 (maxL a (r.take j)))) r.length ?_ ?_
 ·refine ⟨rfl, 0, by simp, ?_⟩
  simp only [zs, reduceIte, Nat.reduceEqDiff, Nat.reduceLT, Nat.reduceLeDiff, Nat.reduceAdd, reduceCtorEq, Nat.reduceMul]
  exact ⟨rfl, rfl⟩
 rintro m s σ ⟨rfl, j, hm, e0, e4, e3⟩
 refine AW.seq_k fun K7 h7 => ?_
 all_goals refine AW.sr (J3 e0 e4 hlm) ?_
 refine AW.cd (decide (j + 1 < r.length + 1)) (fun hc => ?_) (fun hc => ?_)
 ·refine AW.skip ?_
  simp only [zs, simprocAttr]
  all_goals apply_assumption
  have hj : j < r.length := by have := of_decide_eq_true hc; omega
  have hj1 : j + 1 < r.length + 1 := by omega
  have hg : es.getD (j + 1) [] = encI r[j] := by rw [← hes]; simp [hj]
  have htk : r.take (j + 1) = r.take j ++ [r[j]] := by rw [List.take_append_getElem]
  have hw : IntKind.i64.wrap (((j + 1 : Nat) : Int) + 1) = ((j + 1 + 1 : Nat) : Int) := by rw [wrap_small _ (by omega) (by omega)]; rfl
  generalize hb : r[j] = b at hg htk
  refine AW.seq_k fun K9 h9 => ?_
  refine AW.block ?_   -- 1
  refine AW.reg0 (S.rn (J7 e0 e4 e3 hlm hg @encI.eq_1 hj1) ?_)
  all_goals apply_assumption
  refine AW.reg0 (S.rn (J2 e4 hw) ?_)
  simp only [ze, simprocAttr, e4, hw]
  refine ⟨m - 1, by omega, j + 1, by omega, e0, rfl, ?_⟩
  rw [htk]
  simp only [maxL, List.foldl_append, List.foldl_cons, List.foldl_nil]
  first | done | rfl | (congr 1)
 ·refine AW.exit ?_
  simp only [zs, simprocAttr]
  -- EXIT 0
  all_goals apply_assumption
  have hj : r.length ≤ j := by have := of_decide_eq_false hc; omega
  rw [List.take_of_length_le hj] at e3
  refine AW.sr e3 ?_
  refine AW.ret ?_
  simp only [zs, simprocAttr]
def beginOf (l : List Bd) : Int := match l.map (·.ev.time) with
  | [] => 0
  | a :: r => minL a r
theorem begin_spec (l : List Bd) (hn : l.length * 80 ≤ 140737488355328) : PCalls Tryz.prog 88 [.agg [.sl (l.map encBd)]] (fun v => v = .c (.int .i64 (beginOf l))) := by
 refine PCalls.intro Tryz.call88 Tryz.func88 rfl Tryz.ntmps88 Tryz.results88 (by simp) ?_
 refine AW.sr trivial ?_
 refine AW.seq_k fun K2 h2 => ?_
 refine AW.sr trivial ?_
 refine AW.cd (((l.length : Int) == 0)) (fun hc => ?_) (fun hc => ?_)
 ·refine AW.sr trivial ?_
  refine AW.ret ?_
  simp only [zs, simprocAttr]
  have h0 : l = [] := List.eq_nil_of_length_eq_zero (by have h := beq_iff_eq.mp hc; omega)
  simp [h0, beginOf]
 ·refine AW.skip ?_
  simp only [zs, simprocAttr]
  all_goals apply_assumption
  cases l with
  | nil => simp at hc
  | cons b r =>
  have hr : r.length + 1 = (b :: r).length := rfl
  have hn2 : (r.length + 1) * 80 ≤ 140737488355328 := hn
  refine AW.seq_k fun K5 h5 => ?_
  refine AW.reg0 ?_
  refine S.one trivial ?_
  refine S.cl trivial (times_spec (b :: r) hn) ?_
  (refine S.g rfl rfl fun Y Z => ?_; simp only [zz, simprocAttr]; refine PCalls.eqto (min_spec b.ev.time (r.map (fun x : Bd => x.ev.time)) (by rw [List.length_map]; omega)) ?_ <;> (refine Z _ _ ?_; clear Z Y))
  refine S.one trivial ?_
  (refine S.nil ?_; simp only [ze, simprocAttr]; apply_assumption)
  refine AW.ret ?_
  simp only [zs, simprocAttr]
  rfl
def endOf (l : List Bd) : Int := match l.map (·.ev.time) with
  | [] => 0
  | a :: r => maxL a r
theorem end_spec (l : List Bd) (hn : l.length * 80 ≤ 140737488355328) : PCalls Tryz.prog 89 [.agg [.sl (l.map encBd)]] (fun v => v = .c (.int .i64 (endOf l))) := by
 refine PCalls.intro Tryz.call89 Tryz.func89 rfl Tryz.ntmps89 Tryz.results89 (by simp) ?_
 refine AW.sr trivial ?_
 refine AW.seq_k fun K2 h2 => ?_
 refine AW.sr trivial ?_
 refine AW.cd (((l.length : Int) == 0)) (fun hc => ?_) (fun hc => ?_)
 ·refine AW.sr trivial ?_
  refine AW.ret ?_
  simp only [zs, simprocAttr]
  have h0 : l = [] := List.eq_nil_of_length_eq_zero (by have h := beq_iff_eq.mp hc; omega)
  simp [h0, endOf]
 ·refine AW.skip ?_
  simp only [zs, simprocAttr]
  all_goals apply_assumption
  cases l with
  | nil => simp at hc
  | cons b r =>
  have hr : r.length + 1 = (b :: r).length := rfl
  have hn2 : (r.length + 1) * 80 ≤ 140737488355328 := hn
  refine AW.seq_k fun K5 h5 => ?_
  refine AW.reg0 ?_
  refine S.one trivial ?_
  refine S.cl trivial (times_spec (b :: r) hn) ?_
  (refine S.g rfl rfl fun Y Z => ?_; simp only [zz, simprocAttr]; refine PCalls.eqto (max_spec b.ev.time (r.map (fun x : Bd => x.ev.time)) (by rw [List.length_map]; omega)) ?_ <;> (refine Z _ _ ?_; clear Z Y))
  refine S.one trivial ?_
  (refine S.nil ?_; simp only [ze, simprocAttr]; apply_assumption)
  refine AW.ret ?_
  simp only [zs, simprocAttr]
  rfl
def sink (lo : Nat) : Nat → List Bd → List Bd
  | 0, l => l
  | j + 1, l => match l[j + 1]?, l[j]? with
    | some x, some y => if lo < j + 1 ∧ cmpS x.var y.var < 0 then sink lo j ((l.set (j + 1) y).set j x) else l
    | _, _ => l
theorem sink_stay {lo j : Nat} {l : List Bd} {x y : Bd} (hx : l[j]? = some x) (hy : l[j-1]? = some y) (h : ¬ cmpS x.var y.var < 0) : sink lo j l = l := by
  cases j with
  | zero => rfl
  | succ q =>
    rw [Nat.add_sub_cancel] at hy
    simp [sink, hx, hy, h]
theorem sink_low {lo j : Nat} {l : List Bd} (h : ¬ lo < j) : sink lo j l = l := by
  cases j with
  | zero => rfl
  | succ q =>
    simp only [sink]
    split
    · rw [if_neg (fun e => h e.1)]
    · rfl
theorem sink_go {lo j : Nat} {l : List Bd} {x y : Bd} (hl : lo < j) (hx : l[j]? = some x) (hy : l[j-1]? = some y) (h : cmpS x.var y.var < 0) : sink lo j l = sink lo (j - 1) ((l.set j y).set (j - 1) x) := by
  cases j with
  | zero => omega
  | succ q =>
    rw [Nat.add_sub_cancel] at hy
    simp [sink, hx, hy, h, hl]
def insFrom (lo : Nat) (l : List Bd) (i m : Nat) : List Bd := (List.range' i m).foldl (fun l i => sink lo i l) l
def insort (lo hi : Nat) (l : List Bd) : List Bd := insFrom lo l (lo + 1) (hi - (lo + 1))
def hpB (k : Nat) (l : List Bd) : Hp := Hp.empty.setGr k (some ((50, 6), l.map encBd))
theorem insort_spec (l : List Bd) (k lo hi : Nat) (hlo : lo ≤ hi) (hhi : hi ≤ l.length) (hn : l.length < 4611686018427387904) :
    ACalls Tryz.prog 186 [.gl k, .c (.int .i64 lo), .c (.int .i64 hi), .fn (.func 141) [] []] (hpB k l) (fun v σ' => v = .tup [] ∧ σ' = hpB k (insort lo hi l)) := by
  refine ACalls.intro Tryz.call186 Tryz.func186 rfl Tryz.ntmps186 Tryz.results186 (by simp) ?_
  have hw1 : IntKind.i64.wrap ((lo : Int) + 1) = ((lo + 1 : Nat) : Int) := by rw [wrap_small _ (by omega) (by omega)]; rfl
  refine AW.sr hw1 ?_
  refine AW.block ?_   -- 0
  refine AW.loop (fun m s σ => ∃ i l', m + i = hi + 1 + lo ∧ lo + 1 ≤ i ∧ s.t 0 = .gl k ∧ s.t 1 = .c (.int .i64 lo) ∧ s.t 2 = .c (.int .i64 hi) ∧ s.t 3 = .fn (.func 141) [] [] ∧ s.t 8 = .c (.int .i64 (i : Nat)) ∧
    σ = hpB k l' ∧ l'.length = l.length ∧ insort lo hi l = insFrom lo l' i (hi - i)) hi ?_ ?_
  · refine ⟨lo + 1, l, by omega, Nat.le_refl _, ?_⟩
    simp only [zs, simprocAttr]
    simp [insort]
  rintro m s σ ⟨i, l', hm, hi1, e0, e1, e2, e3, e8, rfl, hl', hp⟩
  refine AW.seq_k fun K2 h2 => ?_
  refine AW.sr (J2 e2 e8) ?_
  refine AW.cd (decide (i < hi)) (fun hc => ?_) (fun hc => ?_)
  · refine AW.skip ?_
    simp only [zs, simprocAttr]
    all_goals apply_assumption
    have hih : i < hi := by simpa using hc
    refine AW.seq_k fun K4 h4 => ?_
    refine AW.block ?_   -- 1
    refine AW.sr e8 ?_
    refine AW.block ?_   -- 2
    refine AW.loop (fun m s σ => ∃ j l2, m = j ∧ j ≤ i ∧ s.t 0 = .gl k ∧ s.t 1 = .c (.int .i64 lo) ∧ s.t 2 = .c (.int .i64 hi) ∧ s.t 3 = .fn (.func 141) [] [] ∧ s.t 8 = .c (.int .i64 (i : Nat)) ∧ s.t 9 = .c (.int .i64 (j : Nat)) ∧
      σ = hpB k l2 ∧ l2.length = l.length ∧ sink lo i l' = sink lo j l2) i ?_ ?_
    · refine ⟨i, l', rfl, Nat.le_refl _, ?_⟩
      simp only [zs, simprocAttr]
      refine ⟨e0, e1, e2, e3, e8, ?_⟩
      simp [hl']
    rintro j s2 σ2 ⟨_, l2, rfl, hji, f0, f1, f2, f3, f8, f9, rfl, hl2, hs⟩
    refine AW.seq_k fun K6 h6 => ?_
    refine AW.seq_j (fun s' σ' => σ' = hpB k l2 ∧ s'.t 0 = .gl k ∧ s'.t 1 = .c (.int .i64 lo) ∧ s'.t 2 = .c (.int .i64 hi) ∧ s'.t 3 = .fn (.func 141) [] [] ∧ s'.t 8 = .c (.int .i64 (i : Nat)) ∧ s'.t 9 = .c (.int .i64 (j : Nat)) ∧
      ∃ b, s'.t 34 = .c (.bool b) ∧ (b = true → lo < j ∧ ∃ x y : Bd, l2[j]? = some x ∧ l2[j-1]? = some y ∧ cmpS x.var y.var < 0) ∧ (b = false → sink lo j l2 = l2)) ?_ ?_
    · clear hp hs
      have hpb : (hpB k l2).gr k = some ((50, 6), l2.map encBd) := by simp [hpB]
      by_cases hlj : lo < j
      · have hj1 : j < l2.length := by omega
        have hj2 : j - 1 < l2.length := by omega
        have hg1 := getD_map (f := encBd) hj1
        have hg2 := getD_map (f := encBd) hj2
        have hx : l2[j]? = some l2[j] := List.getElem?_eq_getElem hj1
        have hy : l2[j-1]? = some l2[j-1] := List.getElem?_eq_getElem hj2
        generalize l2[j] = x at hg1 hx
        generalize l2[j-1] = y at hg2 hy
        have hw : IntKind.i64.wrap ((j : Int) - 1) = ((j - 1 : Nat) : Int) := by rw [wrap_small _ (by omega) (by omega)]; omega
        generalize hsg : hpB k l2 = σ0 at hpb ⊢
        refine AW.draw2 (T := { sd := fun _ => false }) (fun _ _ h => by cases h) mixedO [(0, 0), (1, 0), (2, 0), (3, 0), (4, 0), (5, 0), (6, 0), (7, 0), (9, 0), (10, 0), (11, 0), (12, 0)] 8 13 [(14, 2), (15, 0), (16, 0)] #[true, true, true, true, true, true, true, true, false, true, true, true, true, false, false, false, false] rfl (by kernel_rfl) (by kernel_rfl) (by kernel_rfl) (by kernel_rfl) (by kernel_rfl) ?_
        all_goals have q1q := J11 f0 f1 f3 f9 hpb hj1 hj2 hg1 hg2 hw @encBd.eq_1
        all_goals iterate 2 refine D.one q1q ?_
        all_goals (refine D.sp q1q fun b a20 => ?_; cases b <;> (try exact nope a20))
        all_goals iterate 9 refine D.one q1q ?_
        all_goals refine D.nil ⟨?_, ?_⟩
        all_goals iterate 2 refine D.one q1q ?_
        all_goals have q2q := J11 f0 f1 f3 f9 hpb hj1 hj2 hg1 hg2 hw @encBd.eq_1
        all_goals (first | (refine D.cl q2q (less_spec x y) ?_) | refine D.one trivial ?_)
        all_goals iterate 2 refine D.one q2q ?_
        all_goals refine D.nil ?_
        all_goals simp only [ze, simprocAttr, q2q]
        all_goals exact ⟨f2, f8, _, rfl, fun h => ⟨hlj, x, y, hx, hy, of_decide_eq_true h⟩, fun h => sink_stay hx hy (of_decide_eq_false h)⟩
      · generalize hsg : hpB k l2 = σ0 at hpb ⊢
        refine AW.draw2 (T := { sd := fun _ => false }) (fun _ _ h => by cases h) mixedO [(0, 0), (1, 0), (2, 0), (3, 0), (4, 0), (5, 0), (6, 0), (7, 0), (9, 0), (10, 0), (11, 0), (12, 0)] 8 13 [(14, 2), (15, 0), (16, 0)] #[true, true, true, true, true, true, true, true, false, true, true, true, true, false, false, false, false] rfl (by kernel_rfl) (by kernel_rfl) (by kernel_rfl) (by kernel_rfl) (by kernel_rfl) ?_
        all_goals have q3q := J4 f0 f1 f3 f9
        all_goals iterate 2 refine D.one q3q ?_
        all_goals (refine D.sp q3q fun b a20 => ?_; cases b <;> (try exact nope a20))
        all_goals iterate 9 refine D.one q3q ?_
        all_goals refine D.nil ⟨?_, ?_⟩
        all_goals iterate 2 refine D.one q3q ?_
        all_goals have q4q := J4 f0 f1 f3 f9
        all_goals (first | (refine D.cl q4q (less_spec x y) ?_) | refine D.one trivial ?_)
        all_goals iterate 2 refine D.one q4q ?_
        all_goals refine D.nil ?_
        all_goals simp only [ze, simprocAttr, q4q]
        all_goals exact ⟨f2, f8, _, rfl, (fun h => by cases h), fun _ => sink_low hlj⟩
    rintro s3 σ3 ⟨rfl, g0, g1, g2, g3, g8, g9, b, g34, hbt, hbf⟩
    refine AW.cond (b := b) g34 (fun hb => AW.skip ?_) (fun hb => AW.exit ?_)
    · simp only [zs, simprocAttr]
      all_goals apply_assumption
      obtain ⟨hlj, x, y, hx, hy, hlt⟩ := hbt hb
      have hs2 := sink_go hlj hx hy hlt
      have hj1 : j < l2.length := (List.getElem?_eq_some_iff.1 hx).1
      have hj2 : j - 1 < l2.length := by omega
      have hg1 : (l2.map encBd).getD j [] = encBd x := by rw [getD_map hj1, (List.getElem?_eq_some_iff.1 hx).2]
      have hg2 : (l2.map encBd).getD (j - 1) [] = encBd y := by rw [getD_map hj2, (List.getElem?_eq_some_iff.1 hy).2]
      have hgs : ∀ v, ((l2.map encBd).set j v).getD (j - 1) [] = encBd y := fun v => by
        rw [← hg2]; simp [List.getD, List.getElem?_set, show j ≠ j - 1 by omega]
      have hw : IntKind.i64.wrap ((j : Int) - 1) = ((j - 1 : Nat) : Int) := by rw [wrap_small _ (by omega) (by omega)]; omega
      have hpb : hpB k l2 = Hp.empty.setGr k (some ((50, 6), l2.map encBd)) := rfl
      rw [hpb]
      refine AW.seq_k fun K7 h7 => ?_
      refine AW.block ?_   -- 3
      refine AW.mono (Q := thenS (fun s' σ' => σ' = hpB k ((l2.set j y).set (j - 1) x) ∧ s'.t 0 = .gl k ∧ s'.t 1 = .c (.int .i64 lo) ∧ s'.t 2 = .c (.int .i64 hi) ∧ s'.t 3 = .fn (.func 141) [] [] ∧ s'.t 8 = .c (.int .i64 (i : Nat)) ∧ s'.t 9 = .c (.int .i64 (j : Nat))) (fun _ _ _ => False)) ?_ ?_
      · skip
        refine AW.draw2 (T := { sd := fun _ => false }) (fun _ _ h => by cases h) mixedO [(0, 0), (1, 0), (2, 0), (3, 0), (4, 0), (5, 0), (6, 0), (7, 0), (8, 0), (10, 0), (11, 0), (12, 0)] 9 13 [(14, 0), (15, 2), (16, 0), (17, 2)] #[true, true, true, true, true, true, true, true, true, false, true, true, true, false, false, false, false, false] rfl (by kernel_rfl) (by kernel_rfl) (by kernel_rfl) (by kernel_rfl) (by kernel_rfl) ?_
        all_goals have q5q := J12 g0 g1 g2 g3 g8 g9 hj1 hj2 hg1 hg2 hgs (J3 hw @encBd.eq_1 @List.length_set.{0})
        all_goals iterate 12 refine D.one q5q ?_
        all_goals refine D.nil ⟨?_, ?_⟩
        all_goals iterate 6 refine D.one q5q ?_
        all_goals refine D.nil ?_
        all_goals simp only [ze, simprocAttr, q5q]
        all_goals simp [hpB, encBd, List.map_set]
      rintro e s4 σ4 hq
      cases e with
      | normal =>
        obtain ⟨rfl, q0, q1, q2, q3, q8, q9⟩ := hq
        simp only [zs, simprocAttr]
        all_goals apply_assumption
        refine AW.reg0 (S.rn (J2 q9 hw) ?_)
        simp only [ze, simprocAttr, q9, hw]
        refine ⟨j - 1, by omega, j - 1, (l2.set j y).set (j - 1) x, rfl, by omega, q0, q1, q2, q3, q8, rfl, rfl, by simp [hl2], ?_⟩
        rw [hs, hs2]
      | _ => exact hq.elim
    · simp only [zs, simprocAttr]
      all_goals apply_assumption
      have hw : IntKind.i64.wrap ((i : Int) + 1) = ((i + 1 : Nat) : Int) := by rw [wrap_small _ (by omega) (by omega)]; rfl
      refine AW.reg0 (S.rn (J2 g8 hw) ?_)
      simp only [ze, simprocAttr, g8, hw]
      refine ⟨m - 1, by omega, i + 1, l2, by omega, by omega, g0, g1, g2, g3, rfl, rfl, hl2, ?_⟩
      rw [hp, show hi - i = (hi - (i + 1)) + 1 by omega]
      simp only [insFrom, List.range'_succ, List.foldl_cons]
      rw [hs, hbf hb]
  · refine AW.exit ?_
    simp only [zs, simprocAttr]
    -- EXIT 0
    have hih : hi ≤ i := by simpa using hc
    have h0 : hi - i = 0 := by omega
    rw [h0] at hp
    rw [hp]; exact ⟨rfl, rfl⟩
theorem stable_small (l : List Bd) (k : Nat) (hn : l.length < 20) :
  ACalls Tryz.prog 171 [.gl k, .c (.int .i64 l.length), .fn (.func 141) [] []] (hpB k l) (fun v σ' => v = .tup [] ∧ σ' = hpB k (insort 0 l.length l)) := by
 refine ACalls.intro Tryz.call171 Tryz.func171 rfl Tryz.ntmps171 Tryz.results171 (by simp) ?_
 refine AW.sr trivial ?_
 refine AW.sr trivial ?_
 refine AW.seq_k fun K3 h3 => ?_
 refine AW.block ?_   -- 0
 refine AW.loop (fun m s σ => σ = hpB k l ∧ s.t 0 = .gl k ∧ s.t 1 = .c (.int .i64 l.length) ∧ s.t 2 = .fn (.func 141) [] [] ∧ s.t 6 = .c (.int .i64 20) ∧ s.t 7 = .c (.int .i64 ((0 : Nat) : Int)) ∧ s.t 8 = .c (.int .i64 20)) 0 ?_ ?_
 ·refine ⟨rfl, ?_⟩
  simp only [zs, reduceIte, Nat.reduceEqDiff, Nat.reduceLT, Nat.reduceLeDiff, Nat.reduceAdd, reduceCtorEq, Nat.reduceMul]
  simp
 rintro m s σ ⟨rfl, e0, e1, e2, e6, e7, e8⟩
 refine AW.seq_k fun K4 h4 => ?_
 all_goals refine AW.sr (J2 e1 e8) ?_
 refine AW.cd (decide ((20 : Int) ≤ l.length)) (fun hc => ?_) (fun hc => ?_)
 ·have := of_decide_eq_true hc; omega
 refine AW.exit ?_
 all_goals simp only [zs, simprocAttr]
 all_goals apply_assumption
 refine AW.seq_k fun K6 h6 => ?_
 all_goals refine AW.reg0 ?_
 all_goals iterate 4 refine S.one (J4 e0 e1 e2 e7) ?_
 all_goals have q1q := J4 e0 e1 e2 e7
 all_goals (refine S.g rfl rfl fun Y Z => ?_; simp only [zz, simprocAttr, q1q]; refine (insort_spec l k 0 l.length (Nat.zero_le _) (Nat.le_refl _) (by omega)).to fun v σ1 hv => ?_; obtain ⟨rfl, rfl⟩ := hv <;> (refine Z _ _ ?_; clear Z Y))
 all_goals (refine S.nil ?_; simp only [ze, simprocAttr, q1q]; apply_assumption)
 refine AW.block ?_   -- 2
 refine AW.loop (fun m s σ => σ = hpB k (insort 0 l.length l) ∧ s.t 1 = .c (.int .i64 l.length) ∧ s.t 6 = .c (.int .i64 20)) 0 ?_ ?_
 ·refine ⟨rfl, ?_⟩
  simp only [zs, simprocAttr]
  first | exact ⟨e1, e6⟩ | exact ⟨e1, e6, trivial⟩ | simp [e1, e6]
 rintro m2 s2 σ2 ⟨rfl, f1, f6⟩
 refine AW.seq_k fun K7 h7 => ?_
 all_goals refine AW.sr (J2 f1 f6) ?_
 refine AW.cd (decide ((20 : Int) < l.length)) (fun hc => ?_) (fun hc => ?_)
 ·have := of_decide_eq_true hc; omega
 refine AW.exit ?_
 all_goals simp only [zs, simprocAttr]
 first | exact ⟨rfl, rfl⟩ | rfl
theorem sort_small (l : List Bd) (k : Nat) (hn : l.length < 20) :
    ACalls Tryz.prog 140 [.gl k, .fn (.func 141) [] []] (hpB k l) (fun v σ' => v = .tup [] ∧ σ' = hpB k (insort 0 l.length l)) := by
  refine ACalls.intro Tryz.call140 Tryz.func140 rfl Tryz.ntmps140 Tryz.results140 (by simp) ?_
  have hpb : (hpB k l).gr k = some ((50, 6), l.map encBd) := by simp [hpB]
  refine AW.mono (Q := thenS (fun s' σ' => σ' = hpB k (insort 0 l.length l)) (fun _ _ _ => False)) ?_ ?_
  · clear hpb; unfold hpB
    refine AW.reg0 ?_
    iterate 4 refine S.one trivial ?_
    (refine S.g rfl rfl fun Y Z => ?_; simp only [zz, simprocAttr]; refine (stable_small l k hn).to fun v σ1 hv => ?_; obtain ⟨rfl, rfl⟩ := hv <;> (refine Z _ _ ?_; clear Z Y))
    refine S.nil ?_
    simp only [ze, simprocAttr]
    rfl
  rintro e s σ hq
  cases e with
  | normal =>
    have hq : σ = hpB k (insort 0 l.length l) := hq
    subst hq
    simp only [zs, simprocAttr]
    first | exact ⟨rfl, rfl⟩ | rfl
  | _ => exact hq.elim
theorem concat_frozen (ls : List (List Bd)) (h0 : ls ≠ []) (hn : ls.length < 4611686018427387904) (ht : tot ls * 80 ≤ 140737488355328) :
  PCalls Tryz.prog 139 [.sl (ls.map encL)] (fun v => v = .sl (ls.flatten.map encBd)) := by
 refine PCalls.intro Tryz.call139 Tryz.func139 rfl Tryz.ntmps139 Tryz.results139 (by simp) ?_
 refine AW.sr trivial ?_
 refine AW.sr trivial ?_
 refine AW.seq_j (fun s' σ' => σ' = Hp.empty ∧ s'.t 0 = .sl (ls.map encL) ∧ s'.t 3 = .c (.int .i64 (tot ls))) ?_ ?_
 ·refine AW.sr trivial ?_
  refine AW.block ?_   -- 0
  refine AW.loop (fun m s σ => σ = Hp.empty ∧ ∃ i : Nat, m + i = ls.length ∧ s.t 0 = .sl (ls.map encL) ∧ s.t 9 = .sl (ls.map encL) ∧ s.t 10 = .c (.int .i64 ls.length) ∧ s.t 11 = .c (.int .i64 i) ∧ s.t 3 = .c (.int .i64 (tot (ls.take i)))) ls.length ?_ ?_
  ·refine ⟨rfl, 0, by simp, ?_⟩
   simp only [zs, simprocAttr]
   simp [tot]
  rintro m s σ ⟨rfl, i, hm, e0, e9, e10, e11, e3⟩
  all_goals refine AW.sr (J2 e10 e11) ?_
  refine AW.seq_k fun K5 h5 => ?_
  refine AW.cd (decide (i < ls.length)) (fun hc => ?_) (fun hc => ?_)
  ·refine AW.skip ?_
   simp only [zs, simprocAttr]
   all_goals apply_assumption
   have hi : i < ls.length := by simpa using hc
   have hg := getD_map (f := encL) hi
   have htk : ls.take (i + 1) = ls.take i ++ [ls[i]] := by rw [List.take_append_getElem]
   generalize ha : ls[i] = a at hg htk
   have hle : tot (ls.take (i + 1)) ≤ tot ls := tot_take ls (i + 1)
   rw [htk, tot_snoc] at hle
   have hw : IntKind.i64.wrap ((i : Int) + 1) = ((i + 1 : Nat) : Int) := by rw [wrap_small _ (by omega) (by omega)]; rfl
   have hw2 : IntKind.i64.wrap ((tot (ls.take i) : Int) + a.length) = ((tot (ls.take i) + a.length : Nat) : Int) := by rw [wrap_small _ (by omega) (by omega)]; omega
   refine AW.seq_k fun K6 h6 => ?_
   refine AW.block ?_   -- 1
   refine AW.sr (J5 e9 e11 hi hg @encL.eq_1) ?_
   refine AW.sr (J2 e3 hw2) ?_
   refine AW.sr trivial ?_
   refine AW.cd (decide (((tot (ls.take i) + a.length : Nat) : Int) < 0)) (fun hc => ?_) (fun hc => ?_)
   ·have := of_decide_eq_true hc; omega
   refine AW.skip ?_
   all_goals simp only [zs, simprocAttr]
   all_goals apply_assumption
   all_goals refine AW.reg0 (S.rn (J2 e11 hw) ?_)
   all_goals simp only [ze, simprocAttr, e11, hw]
   refine ⟨m - 1, by omega, i + 1, by omega, e0, e9, e10, rfl, ?_⟩
   rw [htk, tot_snoc]
  ·refine AW.exit ?_
   simp only [zs, simprocAttr]
   have hi : ls.length ≤ i := by simpa using hc
   rw [List.take_of_length_le hi] at e3
   exact ⟨e0, e3⟩
 rintro s0 σ0 ⟨rfl, e0, e3⟩
 refine AW.seq_j (fun s' σ' => s'.t 0 = .sl (ls.map encL) ∧ ((s'.t 6 = .c (.slice none 0 0) ∧ σ' = Hp.empty) ∨ ∃ k, s'.t 6 = .gl k ∧ σ' = Hp.empty.setGr k (some ((50, 6), [])))) ?_ ?_
 ·skip
  refine AW.region (T := { raw := fun d => d == 170 }) (fun _ _ h => by cases h) rfl ?_
  all_goals refine S.one (J2 e0 e3) ?_
  all_goals (refine S.g rfl rfl fun Y Z => ?_; simp only [zz, simprocAttr, -Int.reduceNatCast', e0, e3]; refine (grow_spec _ ht).mono fun v σ1 hv => ?_ <;> (refine Z _ _ ?_; clear Z Y))
  all_goals refine S.one (J2 e0 e3) ?_
  all_goals refine S.nil ?_
  all_goals simp only [ze, simprocAttr, e0, e3]
  rcases hv with ⟨h1, h2, _⟩ | h
  ·exact .inl ⟨h1, h2⟩
  ·exact .inr h
 rintro s1 σ1 ⟨f0, hv⟩
 refine AW.seq_k fun K10 h10 => ?_
 all_goals refine AW.sr f0 ?_
 refine AW.block ?_   -- 2
 refine AW.loop (fun m s σ => ∃ i : Nat, m + i = ls.length ∧ s.t 25 = .sl (ls.map encL) ∧ s.t 26 = .c (.int .i64 ls.length) ∧ s.t 27 = .c (.int .i64 i) ∧
  ((i = 0 ∧ s.t 6 = .c (.slice none 0 0) ∧ σ = Hp.empty) ∨ ∃ k, s.t 6 = .gl k ∧ σ = Hp.empty.setGr k (some ((50, 6), (ls.take i).flatten.map encBd)))) ls.length ?_ ?_
 ·refine ⟨0, by simp, ?_⟩
  simp only [zs, simprocAttr, -Int.reduceNatCast']
  refine ⟨by simp, ?_⟩
  rcases hv with ⟨h1, h2⟩ | ⟨k, h1, h2⟩
  ·exact .inl ⟨h1, h2⟩
  ·exact .inr ⟨k, h1, by rw [h2]; rfl⟩
 rintro m s σ ⟨i, hm, e25, e26, e27, hk⟩
 all_goals refine AW.sr (J2 e26 e27) ?_
 refine AW.seq_k fun K13 h13 => ?_
 refine AW.cd (decide (i < ls.length)) (fun hc => ?_) (fun hc => ?_)
 ·refine AW.skip ?_
  simp only [zs, simprocAttr]
  all_goals apply_assumption
  have hi : i < ls.length := by simpa using hc
  have hg := getD_map (f := encL) hi
  have htk : ls.take (i + 1) = ls.take i ++ [ls[i]] := by rw [List.take_append_getElem]
  generalize ha : ls[i] = a at hg htk
  have hle : tot (ls.take (i + 1)) ≤ tot ls := tot_take ls (i + 1)
  rw [htk, tot_snoc] at hle
  have hw : IntKind.i64.wrap ((i : Int) + 1) = ((i + 1 : Nat) : Int) := by rw [wrap_small _ (by omega) (by omega)]; rfl
  have hfl : (ls.take i).flatten.length = tot (ls.take i) := flat_tot _
  refine AW.seq_k fun K14 h14 => ?_
  refine AW.block ?_   -- 3
  rcases hk with ⟨rfl, e6, rfl⟩ | ⟨k, e6, rfl⟩
  ·refine AW.sr (J5 e25 e27 hi hg @encL.eq_1) ?_
   refine AW.reg0 ?_
   iterate 2 refine S.one e6 ?_
   (refine S.g rfl rfl fun Y Z => ?_; simp only [zz, simprocAttr, -Int.reduceNatCast', tt, e6]; refine ⟨len_bd _, by unfold maxLen; omega, by unfold reach; omega, fun k2 hk2 => ?_⟩ <;> (refine Z _ _ ?_; clear Z Y))
   all_goals refine S.one e6 ?_
   all_goals (refine S.nil ?_; simp only [ze, simprocAttr, e6]; apply_assumption)
   all_goals have q1q := J4 e27 hw e25 e26
   all_goals refine AW.reg0 (S.rn q1q ?_)
   all_goals simp only [ze, simprocAttr, q1q]
   refine ⟨m - 1, by omega, 1, by omega, rfl, .inr ⟨k2, rfl, ?_⟩⟩
   rw [show ls.take 1 = [] ++ [a] from htk]; simp
  ·refine AW.sr (J5 e25 e27 hi hg @encL.eq_1) ?_
   refine AW.reg0 ?_
   iterate 2 refine S.one (J2 e6 hfl) ?_
   (refine S.g rfl rfl fun Y Z => ?_; simp only [zz, simprocAttr, -Int.reduceNatCast', tt, e6, hfl]; refine ⟨len_bd _, by unfold maxLen; omega, by unfold reach; omega, fun k2 hk2 => ?_⟩ <;> (refine Z _ _ ?_; clear Z Y))
   all_goals refine S.one (J2 e6 hfl) ?_
   all_goals (refine S.nil ?_; simp only [ze, simprocAttr, e6, hfl]; apply_assumption)
   all_goals have q2q := J4 e27 hw e25 e26
   all_goals refine AW.reg0 (S.rn q2q ?_)
   all_goals simp only [ze, simprocAttr, q2q]
   refine ⟨m - 1, by omega, i + 1, by omega, rfl, .inr ⟨k2, rfl, ?_⟩⟩
   rw [htk, List.flatten_append, List.map_append]; simp
 ·refine AW.exit ?_
  simp only [zs, simprocAttr]
  -- EXIT 2
  all_goals apply_assumption
  have hi : ls.length ≤ i := by simpa using hc
  rcases hk with ⟨rfl, e6, rfl⟩ | ⟨k, e6, rfl⟩
  ·exact absurd (List.eq_nil_of_length_eq_zero (by omega)) h0
  rw [List.take_of_length_le hi]
  all_goals refine AW.sr e6 ?_
  refine AW.freeze (k := k) (T := (50, 6)) (es := ls.flatten.map encBd) (by simp only [Hp.setGr_gr, if_true]) (AW.bare (AW.ret ?_))
  all_goals simp only [zs, simprocAttr, fzV, fz1, St.fz_t, St.fz_l]
theorem clone_grow (l : List Bd) (hl : ∀ b ∈ l, b.ev.attrs.length * 48 ≤ 140737488355328) (hn : l.length * 80 ≤ 140737488355328) : ACalls Tryz.prog 138 [.agg [.sl (l.map encBd)]] Hp.empty (fun v σ' => (l = [] ∧ v = .agg [.c (.slice none 0 0)] ∧ σ' = Hp.empty) ∨ ∃ k, l ≠ [] ∧ v = .agg [.gl k] ∧ σ' = hpB k l) := by
 refine ACalls.introR Tryz.call138 Tryz.func138 rfl Tryz.ntmps138 Tryz.results138 (by simp) ?_
 refine AW.sr trivial ?_
 refine AW.sr trivial ?_
 refine AW.seq_k fun K3 h3 => ?_
 refine AW.sr trivial ?_
 refine AW.block ?_   -- 0
 refine AW.loop (fun m s σ => ∃ i : Nat, m + i = l.length ∧ s.t 1 = .lp 1 0 ∧ s.l 1 = some [.sl (l.map encBd)] ∧ s.t 2 = .lp 2 0 ∧ s.l 2 = some [.c (.slice none 0 0)] ∧ s.t 7 = .sl (l.map encBd) ∧ s.t 8 = .c (.int .i64 l.length) ∧ s.t 9 = .c (.int .i64 i) ∧
  ((i = 0 ∧ s.t 3 = .c (.slice none 0 0) ∧ σ = Hp.empty) ∨ ∃ k, i ≠ 0 ∧ s.t 3 = .gl k ∧ σ = Hp.empty.setGr k (some ((50, 6), (l.take i).map encBd)))) l.length ?_ ?_
 ·refine ⟨0, by simp, ?_⟩
  simp only [zs, simprocAttr]
  simp
 rintro m s σ ⟨i, hm, e1, l1, e2, l2, e7, e8, e9, hk⟩
 refine AW.sr (J2 e9 e8) ?_
 refine AW.seq_k fun K6 h6 => ?_
 refine AW.cd (decide (i < l.length)) (fun hc => ?_) (fun hc => ?_)
 ·refine AW.skip ?_
  simp only [zs, simprocAttr]
  all_goals apply_assumption
  have hi : i < l.length := by simpa using hc
  have hg := getD_map (f := encBd) hi
  have htk : l.take (i + 1) = l.take i ++ [l[i]] := by rw [List.take_append_getElem]
  have hmem := hl _ (List.getElem_mem hi)
  generalize ha : l[i] = a at hg htk hmem
  refine AW.seq_k fun K7 h7 => ?_
  refine AW.block ?_   -- 1
  refine AW.sr (J5 e7 e9 hi hg @encBd.eq_1) ?_
  rcases hk with ⟨rfl, e3, rfl⟩ | ⟨k, hi0, e3, rfl⟩
  ·skip
   refine AW.dv { sd := fun d => d == 5 } [(0,0),(1,0),(3,0),(2,1),(4,1),(5,2),(6,0),(7,2),(8,2),(9,0)] ?_
   have q1q := J2 e3 @encEv.eq_1
   iterate 3 refine D.one q1q ?_
   iterate 2 refine D.one q1q ?_
   refine D.cl (J2 e3 @encEv.eq_1) (clone_ev _ (by assumption)) ?_
   all_goals iterate 2 (refine D.g rfl trivial rfl rfl fun Y Z => ?_; simp only [zb, simprocAttr, -Int.reduceNatCast', tt, e3, encEv]; refine Z _ _ ?_; clear Z Y)
   all_goals have q2q := J2 e3 @encEv.eq_1
   all_goals (refine D.g rfl trivial rfl rfl fun Y Z => ?_; simp only [zz, simprocAttr, -Int.reduceNatCast', tt, q2q]; refine ⟨len_bd [a], by unfold maxLen; omega, by unfold reach; omega, fun k2 hk2 => ?_⟩ <;> (refine Z _ _ ?_; clear Z Y))
   all_goals refine D.one q2q ?_
   all_goals (refine D.nil ?_; apply_assumption)
   have hw : IntKind.i64.wrap (((0 : Nat) : Int) + 1) = ((0 + 1 : Nat) : Int) := by rw [wrap_small _ (by omega) (by omega)]; rfl
   all_goals have q3q := J8 e9 hw e1 e2 e7 e8 l1 l2
   all_goals refine AW.reg0 (S.rn q3q ?_)
   all_goals simp only [ze, simprocAttr, q3q]
   refine ⟨m - 1, by omega, 1, by omega, rfl, .inr ⟨k2, by omega, rfl, ?_⟩⟩
   rw [show l.take 1 = [] ++ [a] from htk]; rfl
  ·have htl : (l.take i).length = i := by rw [List.length_take]; omega
   refine AW.dv { sd := fun d => d == 5 } [(0,0),(1,0),(3,0),(2,1),(4,1),(5,2),(6,0),(7,2),(8,2),(9,0)] ?_
   have q4q := J3 e3 @encEv.eq_1 htl
   iterate 3 refine D.one q4q ?_
   iterate 2 refine D.one q4q ?_
   refine D.cl (J3 e3 @encEv.eq_1 htl) (clone_ev _ (by assumption)) ?_
   all_goals iterate 2 (refine D.g rfl trivial rfl rfl fun Y Z => ?_; simp only [zb, simprocAttr, -Int.reduceNatCast', tt, e3, encEv, htl]; refine Z _ _ ?_; clear Z Y)
   all_goals have q5q := J3 e3 @encEv.eq_1 htl
   all_goals (refine D.g rfl trivial rfl rfl fun Y Z => ?_; simp only [zz, simprocAttr, -Int.reduceNatCast', tt, q5q]; refine ⟨len_bd [a], by unfold maxLen; omega, by unfold reach; omega, fun k2 hk2 => ?_⟩ <;> (refine Z _ _ ?_; clear Z Y))
   all_goals refine D.one q5q ?_
   all_goals (refine D.nil ?_; apply_assumption)
   have hw : IntKind.i64.wrap ((i : Int) + 1) = ((i + 1 : Nat) : Int) := by rw [wrap_small _ (by omega) (by omega)]; rfl
   all_goals have q6q := J8 e9 hw e1 e2 e7 e8 l1 l2
   all_goals refine AW.reg0 (S.rn q6q ?_)
   all_goals simp only [ze, simprocAttr, q6q]
   refine ⟨m - 1, by omega, i + 1, by omega, rfl, .inr ⟨k2, by omega, rfl, ?_⟩⟩
   rw [htk, List.map_append]
   simp [encBd]
 ·refine AW.exit ?_
  simp only [zs, simprocAttr]
  -- EXIT 0
  -- BEHIND THE LOOP
  all_goals apply_assumption
  have hi : l.length ≤ i := by simpa using hc
  rcases hk with ⟨rfl, e3, rfl⟩ | ⟨k, hi0, e3, rfl⟩
  ·have h0 : l = [] := List.eq_nil_of_length_eq_zero (by omega)
   refine AW.sr (J3 e3 e2 l2) ?_
   refine AW.ret ?_
   simp only [zs, simprocAttr, qLoad, tt, cut, List.drop_zero, List.take_succ_cons, List.take_zero, e2]
   exact .inl h0
  ·rw [List.take_of_length_le hi]
   refine AW.sr (J3 e3 e2 l2) ?_
   refine AW.ret ?_
   simp only [zs, simprocAttr, qLoad, tt, cut, List.drop_zero, List.take_succ_cons, List.take_zero, e2]
   exact .inr ⟨k, fun e => by subst e; simp at hm; omega, rfl, rfl⟩
def noPart : V := .tup [.agg [.sl []], .c (.bool false)]
def mergeV (a b p : List Bd) : V := if partErr a ≠ 0 ∨ partErr b ≠ 0 then noPart else if partErr p ≠ 0 then noPart else .tup [.agg [.sl (p.map encBd)], .c (.bool true)]
theorem merge_gen (a b : List Bd) (ha : okP a) (hb : okP b) (hat : ∀ x ∈ a ++ b, x.ev.attrs.length * 48 ≤ 140737488355328) (G : List Bd → Prop) (hG : ∃ p, G p) (hne : a ++ b ≠ [])
  (hS : ¬ (partErr a ≠ 0 ∨ partErr b ≠ 0) → ∀ k, ACalls Tryz.prog 140 [.gl k, .fn (.func 141) [] []] (hpB k (a ++ b)) (fun v σ' => v = .tup [] ∧ ∃ p, okP p ∧ G p ∧ σ' = hpB k p)) :
  PCalls Tryz.prog 106 [.agg [.sl (a.map encBd)], .agg [.sl (b.map encBd)]] (fun v => ∃ p, G p ∧ v = mergeV a b p) := by
 refine PCalls.intro Tryz.call106 Tryz.func106 rfl Tryz.ntmps106 Tryz.results106 (by simp) ?_
 refine AW.sr trivial ?_
 refine AW.seq_k fun K2 h2 => ?_
 refine AW.seq_j (fun s' σ' => σ' = Hp.empty ∧ s'.t 2 = .lp 2 0 ∧ s'.l 2 = some [.sl (a.map encBd)] ∧ s'.t 3 = .lp 3 0 ∧ s'.l 3 = some [.sl (b.map encBd)] ∧ s'.t 4 = .lp 4 0 ∧ s'.l 4 = some [.c (.slice none 0 0)] ∧ s'.t 14 = .c (.bool (decide (partErr a ≠ 0 ∨ partErr b ≠ 0)))) ?_ ?_
 ·skip
  refine AW.reg0 ?_
  refine S.one trivial ?_
  refine S.cl trivial (check_part a ha) ?_
  all_goals (refine S.sp trivial fun b a9 => ?_; cases b <;> (try exact nope a9))
  all_goals iterate 2 refine S.one trivial ?_
  all_goals (first | (refine S.cl trivial (check_part b hb) ?_) | refine S.one trivial ?_)
  all_goals iterate 2 refine S.one trivial ?_
  all_goals refine S.nil ?_
  all_goals simp only [ze, simprocAttr]
  all_goals simp_all
  by_cases h0 : partErr b = 0 <;> simp [h0]
 rintro s σ ⟨rfl, e2, l2, e3, l3, e4, l4, e14⟩
 refine AW.cond (b := _) e14 (fun hc => ?_) (fun hc => ?_)
 ·have hx := of_decide_eq_true hc
  refine AW.sr (J2 e4 l4) ?_
  refine AW.ret ?_
  simp only [zs, simprocAttr, qLoad, tt, cut, List.drop_zero, List.take_succ_cons, List.take_zero, List.map, e4]
  obtain ⟨p0, hp0⟩ := hG
  refine ⟨p0, hp0, ?_⟩
  rw [mergeV, if_pos hx]; rfl
 ·have hx := of_decide_eq_false hc
  refine AW.skip ?_
  simp only [zs, simprocAttr]
  all_goals apply_assumption
  have hla : a.length ≤ 12 := by
   by_cases h : 12 < a.length
   ·exact absurd (.inl (by simp [partErr, h])) hx
   ·omega
  have hlb : b.length ≤ 12 := by
   by_cases h : 12 < b.length
   ·exact absurd (.inr (by simp [partErr, h])) hx
   ·omega
  have htot : tot [a, b] * 80 ≤ 140737488355328 := by simp only [tot, List.map_cons, List.map_nil, List.sum_cons, List.sum_nil]; omega
  have hlen : (a ++ b).length * 80 ≤ 140737488355328 := by rw [List.length_append]; omega
  have hfl : [a, b].flatten = a ++ b := by simp
  refine AW.seq_k fun K4 h4 => ?_
  refine AW.reg0 ?_
  iterate 4 refine S.one (J7 e2 l2 e3 l3 e4 l4 hfl) ?_
  (refine S.g rfl rfl fun Y Z => ?_; simp only [zb, simprocAttr, -Int.reduceNatCast', tt, e2, l2, e3, l3, e4, l4, hfl]; refine ⟨rfl, (by simp), ?_⟩ <;> (refine Z _ _ ?_; clear Z Y))
  all_goals have q1q := J7 e2 l2 e3 l3 e4 l4 hfl
  all_goals refine S.cl q1q (concat_frozen [a, b] (by simp) (by simp) htot) ?_
  all_goals refine S.one q1q ?_
  all_goals have q2q := J7 e2 l2 e3 l3 e4 l4 hfl
  all_goals (refine S.g rfl rfl fun Y Z => ?_; simp only [zz, simprocAttr, -Int.reduceNatCast', q2q]; refine ((clone_grow (a ++ b) hat hlen).to fun v σ1 hv => ?_); obtain ⟨k, _, rfl, rfl⟩ := hv.resolve_left (fun h => hne h.1) <;> (refine Z _ _ ?_; clear Z Y))
  all_goals iterate 2 refine S.one q2q ?_
  all_goals (refine S.nil ?_; simp only [ze, simprocAttr, q2q]; apply_assumption)
  refine AW.seq_k fun K5 h5 => ?_
  all_goals refine AW.reg0 ?_
  all_goals iterate 2 refine S.one trivial ?_
  all_goals (refine S.g rfl rfl fun Y Z => ?_; simp only [zz, simprocAttr, -Int.reduceNatCast']; refine (hS hx k).to fun v σ1 hv => ?_; obtain ⟨rfl, p, hpo, hgp, rfl⟩ := hv <;> (refine Z _ _ ?_; clear Z Y))
  all_goals (refine S.nil ?_; simp only [ze, simprocAttr]; apply_assumption)
  refine AW.freeze (k := k) (T := (50, 6)) (es := p.map encBd) (by simp [hpB]) ?_
  have hem : (hpB k p).setGr k none = Hp.empty := by simp [hpB]
  rw [hem]
  refine AW.seq_j (fun s' σ' => σ' = Hp.empty ∧ s'.t 6 = .lp 6 0 ∧ s'.l 6 = some [.sl (p.map encBd)] ∧ s'.t 4 = .lp 4 0 ∧ s'.l 4 = some [.c (.slice none 0 0)] ∧ partErr p = 0) ?_ ?_
  ·refine AW.seq_j (fun s' σ' => σ' = Hp.empty ∧ s'.t 6 = .lp 6 0 ∧ s'.l 6 = some [.sl (p.map encBd)] ∧ s'.t 4 = .lp 4 0 ∧ s'.l 4 = some [.c (.slice none 0 0)] ∧ s'.t 29 = .c (.bool (partErr p != 0))) ?_ ?_
   ·skip
    refine AW.reg0 ?_
    refine S.one (J11 @St.fz_t @St.fz_l @fzV.eq_1 @fzV.eq_2 @fz1.eq_1 @fz1.eq_2 @Option.map_some.{0,0} @List.map.eq_1.{0,0} @List.map.eq_2.{0,0} e4 l4) ?_
    have q3q := J11 @St.fz_t @St.fz_l @fzV.eq_1 @fzV.eq_2 @fz1.eq_1 @fz1.eq_2 @Option.map_some.{0,0} @List.map.eq_1.{0,0} @List.map.eq_2.{0,0} e4 l4
    refine S.cl q3q (check_part p hpo) ?_
    all_goals refine S.one q3q ?_
    all_goals refine S.nil ?_
    all_goals simp only [ze, simprocAttr, q3q]
   rintro s2 σ2 ⟨rfl, f6, k6, f4, k4, f29⟩
   refine AW.cond (b := partErr p != 0) f29 (fun hc2 => ?_) (fun hc2 => ?_)
   ·have hy : partErr p ≠ 0 := by simpa using hc2
    refine AW.sr (J2 f4 k4) ?_
    refine AW.ret ?_
    simp only [zs, simprocAttr, qLoad, tt, cut, List.drop_zero, List.take_succ_cons, List.take_zero, List.map, f4]
    refine ⟨p, hgp, ?_⟩
    rw [mergeV, if_neg hx, if_pos hy]; rfl
   ·have hy : partErr p = 0 := by simpa using hc2
    refine AW.skip ?_
    simp only [zs, simprocAttr]
    exact ⟨f6, k6, f4, k4, hy⟩
  rintro s2 σ2 ⟨rfl, f6, k6, f4, k4, hy⟩
  all_goals refine AW.sr (J4 f6 k6 f4 k4) ?_
  refine AW.ret ?_
  all_goals simp only [zs, simprocAttr, qLoad, tt, cut, List.drop_zero, List.take_succ_cons, List.take_zero, List.map, f4]
  refine ⟨p, hgp, ?_⟩
  rw [mergeV, if_neg hx, if_neg (fun e => e hy)]
def Sub (l0 l : List Bd) : Prop := l.length = l0.length ∧ ∀ x ∈ l, x ∈ l0
theorem Sub.refl (l : List Bd) : Sub l l := ⟨rfl, fun _ h => h⟩
theorem Sub.trans {a b c : List Bd} (h : Sub a b) (k : Sub b c) : Sub a c := ⟨k.1.trans h.1, fun x hx => h.2 x (k.2 x hx)⟩
theorem Sub.swap {l0 l : List Bd} {i j : Nat} {x y : Bd} (h : Sub l0 l) (hx : l[i]? = some x) (hy : l[j]? = some y) : Sub l0 ((l.set i y).set j x) := by
 refine ⟨by simp [h.1], fun z hz => ?_⟩
 rcases List.mem_or_eq_of_mem_set hz with hz | rfl
 ·rcases List.mem_or_eq_of_mem_set hz with hz | rfl
  ·exact h.2 z hz
  ·exact h.2 _ (List.mem_of_getElem? hy)
 ·exact h.2 _ (List.mem_of_getElem? hx)
def hpS (k : Nat) (l0 : List Bd) (v : V) (σ' : Hp) : Prop := v = .tup [] ∧ ∃ l', Sub l0 l' ∧ σ' = hpB k l'
theorem swapRange_weak (l0 : List Bd) (k a b n : Nat) (hab : a ≠ b) (ha : a + n ≤ l0.length) (hb : b + n ≤ l0.length) (hn : l0.length < 4611686018427387904) :
    ACalls Tryz.prog 204 [.gl k, .c (.int .i64 a), .c (.int .i64 b), .c (.int .i64 n), .fn (.func 141) [] []] (hpB k l0) (hpS k l0) := by
  refine ACalls.intro Tryz.call204 Tryz.func204 rfl Tryz.ntmps204 Tryz.results204 (by simp) ?_
  refine AW.sr trivial ?_
  refine AW.block ?_   -- 0
  refine AW.loop (fun m s σ => ∃ i l', m + i = n ∧ s.t 0 = .gl k ∧ s.t 1 = .c (.int .i64 a) ∧ s.t 2 = .c (.int .i64 b) ∧ s.t 3 = .c (.int .i64 n) ∧ s.t 10 = .c (.int .i64 (i : Nat)) ∧
    σ = hpB k l' ∧ Sub l0 l') n ?_ ?_
  · refine ⟨0, l0, by omega, ?_⟩
    simp only [zs, simprocAttr, -Int.reduceNatCast', -Int.reduceToNat]
    exact ⟨rfl, Sub.refl _⟩
  rintro m s σ ⟨i, l', hm, e0, e1, e2, e3, e10, rfl, hl'⟩
  refine AW.seq_k fun K2 h2 => ?_
  refine AW.sr (J2 e10 e3) ?_
  refine AW.cd (decide (i < n)) (fun hc => ?_) (fun hc => ?_)
  · refine AW.skip ?_
    simp only [zs, simprocAttr]
    all_goals apply_assumption
    have hin : i < n := by simpa using hc
    have hj1 : a + i < l'.length := by rw [hl'.1]; omega
    have hj2 : b + i < l'.length := by rw [hl'.1]; omega
    have hg1 := getD_map (f := encBd) hj1
    have hg2 := getD_map (f := encBd) hj2
    have hx : l'[a+i]? = some l'[a+i] := List.getElem?_eq_getElem hj1
    have hy : l'[b+i]? = some l'[b+i] := List.getElem?_eq_getElem hj2
    generalize l'[a+i] = x at hg1 hx
    generalize l'[b+i] = y at hg2 hy
    have hsub := hl'.swap hx hy
    have hgs : ∀ v, ((l'.map encBd).set (a + i) v).getD (b + i) [] = encBd y := fun v => by
      rw [← hg2]; simp [List.getD, List.getElem?_set, hab]
    have hw1 : IntKind.i64.wrap ((a : Int) + i) = ((a + i : Nat) : Int) := by rw [wrap_small _ (by omega) (by omega)]; rfl
    have hw2 : IntKind.i64.wrap ((b : Int) + i) = ((b + i : Nat) : Int) := by rw [wrap_small _ (by omega) (by omega)]; rfl
    have hpb : hpB k l' = Hp.empty.setGr k (some ((50, 6), l'.map encBd)) := rfl
    rw [hpb]
    refine AW.seq_k fun K4 h4 => ?_
    refine AW.block ?_   -- 1
    refine AW.mono (Q := thenS (fun s' σ' => σ' = hpB k ((l'.set (a + i) y).set (b + i) x) ∧ s'.t 0 = .gl k ∧ s'.t 1 = .c (.int .i64 a) ∧ s'.t 2 = .c (.int .i64 b) ∧ s'.t 3 = .c (.int .i64 n) ∧ s'.t 10 = .c (.int .i64 (i : Nat))) (fun _ _ _ => False)) ?_ ?_
    · skip
      refine AW.draw2 (T := { sd := fun _ => false }) (fun _ _ h => by cases h) mixedO [(0, 0), (1, 0), (2, 0), (3, 0), (4, 0), (5, 0), (6, 0), (7, 0), (8, 0), (9, 0), (10, 0), (11, 0), (12, 0), (14, 0), (15, 0), (16, 0), (17, 0), (18, 0)] 13 19 [(20, 0), (21, 2), (22, 0), (23, 2)] #[true, true, true, true, true, true, true, true, true, true, true, true, true, false, true, true, true, true, true, false, false, false, false, false] rfl (by kernel_rfl) (by kernel_rfl) (by kernel_rfl) (by kernel_rfl) (by kernel_rfl) ?_
      all_goals have q1q := J12 e0 e1 e2 e3 e10 hj1 hj2 hg1 hg2 hgs hw1 (J3 hw2 @encBd.eq_1 @List.length_set.{0})
      all_goals iterate 18 refine D.one q1q ?_
      all_goals refine D.nil ⟨?_, ?_⟩
      all_goals iterate 6 refine D.one q1q ?_
      all_goals refine D.nil ?_
      all_goals simp only [ze, simprocAttr, q1q]
      all_goals simp [hpB, encBd, List.map_set]
    rintro e s4 σ4 hq
    cases e with
    | normal =>
      obtain ⟨rfl, q0, q1, q2, q3, q10⟩ := hq
      have hw : IntKind.i64.wrap ((i : Int) + 1) = ((i + 1 : Nat) : Int) := by rw [wrap_small _ (by omega) (by omega)]; rfl
      simp only [zs, simprocAttr]
      all_goals apply_assumption
      refine AW.reg0 (S.rn (J2 q10 hw) ?_)
      simp only [ze, simprocAttr, q10, hw]
      exact ⟨m - 1, by omega, i + 1, _, by omega, q0, q1, q2, q3, rfl, rfl, hsub⟩
    | _ => exact hq.elim
  · refine AW.exit ?_
    simp only [zs, simprocAttr]
    exact ⟨rfl, l', hl', rfl⟩
theorem rotate_weak (l0 : List Bd) (k a m0 b : Nat) (ham : a < m0) (hmb : m0 < b) (hb : b ≤ l0.length) (hn : l0.length < 4611686018427387904) :
  ACalls Tryz.prog 199 [.gl k, .c (.int .i64 a), .c (.int .i64 m0), .c (.int .i64 b), .fn (.func 141) [] []] (hpB k l0) (hpS k l0) := by
 refine ACalls.intro Tryz.call199 Tryz.func199 rfl Tryz.ntmps199 Tryz.results199 (by simp) ?_
 have hw1 : IntKind.i64.wrap ((m0 : Int) - a) = ((m0 - a : Nat) : Int) := by rw [wrap_small _ (by omega) (by omega)]; omega
 have hw2 : IntKind.i64.wrap ((b : Int) - m0) = ((b - m0 : Nat) : Int) := by rw [wrap_small _ (by omega) (by omega)]; omega
 refine AW.sr hw1 ?_
 refine AW.sr hw2 ?_
 refine AW.seq_k fun K3 h3 => ?_
 refine AW.block ?_   -- 0
 refine AW.loop (fun m s σ => ∃ i j l', m = i + j ∧ 0 < i ∧ 0 < j ∧ i ≤ m0 ∧ m0 + j ≤ l0.length ∧ s.t 0 = .gl k ∧ s.t 2 = .c (.int .i64 m0) ∧ s.t 4 = .fn (.func 141) [] [] ∧ s.t 10 = .c (.int .i64 (i : Nat)) ∧ s.t 11 = .c (.int .i64 (j : Nat)) ∧
  σ = hpB k l' ∧ Sub l0 l') (m0 - a + (b - m0)) ?_ ?_
 ·refine ⟨m0 - a, b - m0, l0, by omega, by omega, by omega, by omega, by omega, ?_⟩
  simp only [zs, simprocAttr]
  exact ⟨rfl, fun _ h => h⟩
 rintro m s σ ⟨i, j, l', hm, hi0, hj0, him, hjm, e0, e2, e4, e10, e11, rfl, hl'⟩
 have hw3 : IntKind.i64.wrap ((m0 : Int) - i) = ((m0 - i : Nat) : Int) := by rw [wrap_small _ (by omega) (by omega)]; omega
 refine AW.seq_k fun K4 h4 => ?_
 refine AW.sr (J2 e10 e11) ?_
 refine AW.cd ((i : Int) != j) (fun hc => ?_) (fun hc => ?_)
 ·refine AW.skip ?_
  simp only [zs, simprocAttr]
  all_goals apply_assumption
  refine AW.block ?_   -- 1
  refine AW.sr (J2 e10 e11) ?_
  refine AW.cd (decide ((i : Int) > j)) (fun hd => ?_) (fun hd => ?_)
  ·have hd := of_decide_eq_true hd
   have hw4 : IntKind.i64.wrap ((i : Int) - j) = ((i - j : Nat) : Int) := by rw [wrap_small _ (by omega) (by omega)]; omega
   refine AW.seq_k fun K7 h7 => ?_
   refine AW.reg0 ?_
   iterate 7 refine S.one (J6 e0 e2 e4 e10 e11 hw3) ?_
   have q1q := J6 e0 e2 e4 e10 e11 hw3
   (refine S.g rfl rfl fun Y Z => ?_; simp only [zz, simprocAttr, -Int.reduceNatCast', -Int.reduceToNat, q1q]; refine (swapRange_weak l' k (m0 - i) m0 j (by omega) (by rw [hl'.1]; omega) (by rw [hl'.1]; omega) (by rw [hl'.1]; omega)).to fun v σ1 hv => ?_; obtain ⟨rfl, l2, hl2, rfl⟩ := hv <;> (refine Z _ _ ?_; clear Z Y))
   all_goals (refine S.nil ?_; simp only [ze, simprocAttr, q1q]; apply_assumption)
   all_goals have q2q := J3 e10 e11 hw4
   all_goals refine AW.reg0 (S.rn q2q ?_)
   all_goals simp only [ze, simprocAttr, q2q]
   exact ⟨m - j, by omega, i - j, j, l2, by omega, by omega, by omega, by omega, by omega, e0, e2, e4, rfl, rfl, rfl, hl'.trans hl2⟩
  ·have hd := of_decide_eq_false hd
   have hne : i ≠ j := fun e => by subst e; simp at hc
   have hw5 : IntKind.i64.wrap ((m0 : Int) + j) = ((m0 + j : Nat) : Int) := by rw [wrap_small _ (by omega) (by omega)]; rfl
   have hw6 : IntKind.i64.wrap (((m0 + j : Nat) : Int) - i) = ((m0 + j - i : Nat) : Int) := by rw [wrap_small _ (by omega) (by omega)]; omega
   have hw4 : IntKind.i64.wrap ((j : Int) - i) = ((j - i : Nat) : Int) := by rw [wrap_small _ (by omega) (by omega)]; omega
   refine AW.seq_k fun K8 h8 => ?_
   refine AW.reg0 ?_
   iterate 11 refine S.one (J8 e0 e2 e4 e10 e11 hw3 hw5 hw6) ?_
   have q3q := J8 e0 e2 e4 e10 e11 hw3 hw5 hw6
   (refine S.g rfl rfl fun Y Z => ?_; simp only [zz, simprocAttr, -Int.reduceNatCast', -Int.reduceToNat, q3q]; refine (swapRange_weak l' k (m0 - i) (m0 + j - i) i (by omega) (by rw [hl'.1]; omega) (by rw [hl'.1]; omega) (by rw [hl'.1]; omega)).to fun v σ1 hv => ?_; obtain ⟨rfl, l2, hl2, rfl⟩ := hv <;> (refine Z _ _ ?_; clear Z Y))
   all_goals (refine S.nil ?_; simp only [ze, simprocAttr, q3q]; apply_assumption)
   all_goals have q4q := J3 e10 e11 hw4
   all_goals refine AW.reg0 (S.rn q4q ?_)
   all_goals simp only [ze, simprocAttr, q4q]
   exact ⟨m - i, by omega, i, j - i, l2, by omega, by omega, by omega, by omega, by omega, e0, e2, e4, rfl, rfl, rfl, hl'.trans hl2⟩
 ·refine AW.exit ?_
  simp only [zs, simprocAttr]
  all_goals apply_assumption
  have hij : (i : Int) = j := by simpa using hc
  have hij : i = j := by omega
  refine AW.reg0 ?_
  iterate 7 refine S.one (J5 e0 e2 e4 e10 hw3) ?_
  have q5q := J5 e0 e2 e4 e10 hw3
  (refine S.g rfl rfl fun Y Z => ?_; simp only [zz, simprocAttr, -Int.reduceNatCast', -Int.reduceToNat, q5q]; refine (swapRange_weak l' k (m0 - i) m0 i (by omega) (by rw [hl'.1]; omega) (by rw [hl'.1]; omega) (by rw [hl'.1]; omega)).to fun v σ1 hv => ?_; obtain ⟨rfl, l2, hl2, rfl⟩ := hv <;> (refine Z _ _ ?_; clear Z Y))
  all_goals refine S.nil ?_
  all_goals simp only [ze, simprocAttr, q5q]
  exact ⟨rfl, l2, hl'.trans hl2, rfl⟩
theorem half_u (n : Nat) (h : n < 9223372036854775808) : IntKind.u64.wrap (n : Int) = (n : Int) := by
 simp [IntKind.wrap, IntKind.signed, IntKind.bits]; omega
theorem half_s (n : Nat) : (n : Int).fdiv (2 ^ (min (Int.toNat 1) IntKind.u64.bits)) = ((n / 2 : Nat) : Int) := by
 have : (n : Int).fdiv 2 = (n : Int) / 2 := Int.fdiv_eq_ediv_of_nonneg _ (by decide)
 simp [IntKind.bits, this]
theorem get_bd {l : List Bd} {i : Nat} (h : i < l.length) : ∃ x, l[i]? = some x ∧ (l.map encBd).getD i [] = encBd x := ⟨l[i], List.getElem?_eq_getElem h, getD_map h⟩
theorem sym_one (l0 : List Bd) (k a m0 b : Nat) (ham : a + 1 = m0) (hmb : m0 < b) (hb : b ≤ l0.length) (hn : l0.length < 2147483648) :
    ACalls Tryz.prog 187 [.gl k, .c (.int .i64 a), .c (.int .i64 m0), .c (.int .i64 b), .fn (.func 141) [] []] (hpB k l0) (hpS k l0) := by
  refine ACalls.intro Tryz.call187 Tryz.func187 rfl Tryz.ntmps187 Tryz.results187 (by simp) ?_
  have hw1 : IntKind.i64.wrap ((m0 : Int) - a) = 1 := by rw [wrap_small _ (by omega) (by omega)]; omega
  refine AW.seq_k fun K1 h1 => ?_
  refine AW.sr hw1 ?_
  refine AW.cd true (fun hc => ?_) (fun hc => by cases hc)
  all_goals refine AW.sr trivial ?_
  all_goals refine AW.sr trivial ?_
  refine AW.seq_j (fun s σ => ∃ i l', m0 ≤ i ∧ i ≤ b ∧ s.t 0 = .gl k ∧ s.t 1 = .c (.int .i64 a) ∧ s.t 10 = .c (.int .i64 (i : Nat)) ∧ σ = hpB k l' ∧ Sub l0 l') ?_ ?_
  · refine AW.block ?_   -- 0
    refine AW.loop (fun m s σ => ∃ i j, m = j - i ∧ m0 ≤ i ∧ i ≤ j ∧ j ≤ b ∧ s.t 0 = .gl k ∧ s.t 1 = .c (.int .i64 a) ∧ s.t 4 = .fn (.func 141) [] [] ∧ s.t 10 = .c (.int .i64 (i : Nat)) ∧ s.t 11 = .c (.int .i64 (j : Nat)) ∧ σ = hpB k l0) (b - m0) ?_ ?_
    · refine ⟨m0, b, rfl, by omega, by omega, by omega, ?_⟩
      simp only [zs, simprocAttr]
    rintro m s σ ⟨i, j, hm, hi, hij, hj, e0, e1, e4, e10, e11, rfl⟩
    refine AW.seq_k fun K5 h5 => ?_
    all_goals refine AW.sr (J2 e10 e11) ?_
    refine AW.cd (decide (i < j)) (fun hc => ?_) (fun hc => ?_)
    · refine AW.skip ?_
      simp only [zs, simprocAttr]
      all_goals apply_assumption
      have hc := of_decide_eq_true hc
      have hw2 : IntKind.i64.wrap ((i : Int) + j) = ((i + j : Nat) : Int) := by rw [wrap_small _ (by omega) (by omega)]; rfl
      have hu := half_u (i + j) (by omega)
      have hs := half_s (i + j)
      have hw3 : IntKind.i64.wrap (((i + j) / 2 : Nat) : Int) = (((i + j) / 2 : Nat) : Int) := wrap_small _ (by omega) (by omega)
      have hh1 : i ≤ (i + j) / 2 := by omega
      have hh2 : (i + j) / 2 < j := by omega
      generalize (i + j) / 2 = h at *
      refine AW.block ?_   -- 1
      refine AW.sq (J6 e10 e11 hw2 hu hs hw3) ?_
      have hpb : (hpB k l0).gr k = some ((50, 6), l0.map encBd) := by simp [hpB]
      have hj1 : h < l0.length := by omega
      have hj2 : a < l0.length := by omega
      obtain ⟨x, hx, hg1⟩ := get_bd hj1
      obtain ⟨y, hy, hg2⟩ := get_bd hj2
      have hw4 : IntKind.i64.wrap ((h : Int) + 1) = ((h + 1 : Nat) : Int) := by rw [wrap_small _ (by omega) (by omega)]; rfl
      generalize hsg : hpB k l0 = σ0 at hpb ⊢
      refine AW.seq_j (fun s' σ' => σ' = σ0 ∧ s'.t 0 = .gl k ∧ s'.t 1 = .c (.int .i64 a) ∧ s'.t 4 = .fn (.func 141) [] [] ∧ s'.t 10 = .c (.int .i64 (i : Nat)) ∧ s'.t 11 = .c (.int .i64 (j : Nat)) ∧ s'.t 12 = .c (.int .i64 (h : Nat)) ∧ ∃ b, s'.t 50 = .c (.bool b)) ?_ ?_
      · skip
        refine AW.draw2 (T := { sd := fun _ => false }) (fun _ _ h => by cases h) mixedO [(0, 0), (1, 0), (2, 0), (3, 0), (5, 0), (6, 0), (7, 0)] 4 8 [(9, 2), (10, 0)] #[true, true, true, true, false, true, true, true, false, false, false] rfl (by kernel_rfl) (by kernel_rfl) (by kernel_rfl) (by kernel_rfl) (by kernel_rfl) ?_
        all_goals have q1q := J9 e0 e1 e4 hpb hj1 hj2 hg1 hg2 @encBd.eq_1
        all_goals iterate 7 refine D.one q1q ?_
        all_goals refine D.nil ⟨?_, ?_⟩
        all_goals iterate 2 refine D.one q1q ?_
        all_goals have q2q := J9 e0 e1 e4 hpb hj1 hj2 hg1 hg2 @encBd.eq_1
        all_goals refine D.cl q2q (less_spec x y) ?_
        all_goals refine D.one q2q ?_
        all_goals refine D.nil ?_
        all_goals simp only [ze, simprocAttr, q2q]
        all_goals exact ⟨e10, e11, _, rfl⟩
      rintro s3 σ3 ⟨rfl, g0, g1, g4, g10, g11, g12, b2, g50⟩
      refine AW.cond (b := b2) g50 (fun hd => ?_) (fun hd => ?_)
      · skip
        refine AW.reg0 (S.rn (J2 g12 hw4) ?_)
        simp only [ze, simprocAttr, g12, hw4]
        exact ⟨j - (h + 1), by omega, h + 1, j, rfl, by omega, by omega, hj, g0, g1, g4, rfl, g11⟩
      · skip
        refine AW.reg0 (S.rn g12 ?_)
        simp only [ze, simprocAttr, g12]
        exact ⟨h - i, by omega, i, h, rfl, by omega, by omega, by omega, g0, g1, g4, g10, rfl⟩
    · refine AW.exit ?_
      simp only [zs, simprocAttr]
      have hc := of_decide_eq_false hc
      exact ⟨i, l0, hi, by omega, e0, e1, e10, rfl, Sub.refl _⟩
  rintro s1 σ1 ⟨i, l1, hi, hib, f0, f1, f10, rfl, hs1⟩
  refine AW.seq_k fun K8 h8 => ?_
  all_goals refine AW.sr f1 ?_
  have hw5 : IntKind.i64.wrap ((i : Int) - 1) = ((i - 1 : Nat) : Int) := by rw [wrap_small _ (by omega) (by omega)]; omega
  refine AW.block ?_   -- 2
  refine AW.loop (fun m s σ => ∃ q l', m + q = i - 1 ∧ a ≤ q ∧ s.t 0 = .gl k ∧ s.t 10 = .c (.int .i64 (i : Nat)) ∧ s.t 13 = .c (.int .i64 (q : Nat)) ∧ σ = hpB k l' ∧ Sub l0 l') (i - 1 - a) ?_ ?_
  · refine ⟨a, l1, by omega, by omega, ?_⟩
    simp only [zs, simprocAttr]
    exact ⟨f0, f10, hs1⟩
  rintro m s σ ⟨q, l', hm, hq, e0, e10, e13, rfl, hs⟩
  refine AW.seq_k fun K10 h10 => ?_
  all_goals refine AW.sr (J3 e10 e13 hw5) ?_
  refine AW.cd (decide (q < i - 1)) (fun hc => ?_) (fun hc => ?_)
  · refine AW.skip ?_
    simp only [zs, simprocAttr]
    all_goals apply_assumption
    have hc := of_decide_eq_true hc
    have hw : IntKind.i64.wrap ((q : Int) + 1) = ((q + 1 : Nat) : Int) := by rw [wrap_small _ (by omega) (by omega)]; rfl
    have hl1 := hs.1
    have hj1 : q < l'.length := by omega
    have hj2 : q + 1 < l'.length := by omega
    obtain ⟨x, hx, hg1⟩ := get_bd hj1
    obtain ⟨y, hy, hg2⟩ := get_bd hj2
    have hsub := hs.swap hx hy
    have hgs : ∀ v, ((l'.map encBd).set q v).getD (q + 1) [] = encBd y := fun v => by
      rw [← hg2]; simp [List.getD, List.getElem?_set]
    have hpb : hpB k l' = Hp.empty.setGr k (some ((50, 6), l'.map encBd)) := rfl
    rw [hpb]
    refine AW.seq_k fun K12 h12 => ?_
    refine AW.block ?_   -- 3
    refine AW.mono (Q := thenS (fun s' σ' => σ' = hpB k ((l'.set q y).set (q + 1) x) ∧ s'.t 0 = .gl k ∧ s'.t 10 = .c (.int .i64 (i : Nat)) ∧ s'.t 13 = .c (.int .i64 (q : Nat))) (fun _ _ _ => False)) ?_ ?_
    · skip
      refine AW.draw2 (T := { sd := fun _ => false }) (fun _ _ h => by cases h) mixedO [(0, 0), (1, 0), (2, 0), (3, 0), (4, 0), (5, 0), (6, 0), (7, 0), (8, 0), (10, 0), (11, 0), (12, 0)] 9 13 [(14, 0), (15, 2), (16, 0), (17, 2)] #[true, true, true, true, true, true, true, true, true, false, true, true, true, false, false, false, false, false] rfl (by kernel_rfl) (by kernel_rfl) (by kernel_rfl) (by kernel_rfl) (by kernel_rfl) ?_
      all_goals have q3q := J11 e0 e10 e13 hj1 hj2 hg1 hg2 hgs hw @encBd.eq_1 @List.length_set.{0}
      all_goals iterate 12 refine D.one q3q ?_
      all_goals refine D.nil ⟨?_, ?_⟩
      all_goals iterate 6 refine D.one q3q ?_
      all_goals refine D.nil ?_
      all_goals simp only [ze, simprocAttr, q3q]
      all_goals simp [hpB, encBd, List.map_set]
    rintro e s4 σ4 hq
    cases e with
    | normal =>
      obtain ⟨rfl, q0, q10, q13⟩ := hq
      simp only [zs, simprocAttr]
      all_goals apply_assumption
      refine AW.reg0 (S.rn (J2 q13 hw) ?_)
      simp only [ze, simprocAttr, q13, hw]
      exact ⟨m - 1, by omega, q + 1, _, by omega, by omega, q0, q10, rfl, rfl, hsub⟩
    | _ => exact hq.elim
  · refine AW.exit ?_
    simp only [zs, simprocAttr]
    all_goals apply_assumption
    refine AW.ret ?_
    simp only [zs, simprocAttr]
    exact ⟨rfl, l', hs, rfl⟩
end Go.Abs.M
