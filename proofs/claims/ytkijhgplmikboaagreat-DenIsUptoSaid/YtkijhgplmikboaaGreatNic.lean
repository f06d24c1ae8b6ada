import Derived.Test.YtkijhgplmikboaaGreatNib
import Derived.Lib.Strings
import Derived.Lib.Slices
import Derived.Lib.Walk
import Derived.Lib.Bytealg
set_option linter.all false
set_option maxHeartbeats 4000000
namespace Go.Abs.M
open Go Go.Abs Go.Proofs
variable [Mode]
set_option maxRecDepth 20000
theorem rtime_spec (n : Int) : PCalls Tryz.prog 75 [.c (.int .i64 n)] (fun r => r = .c (.bool (timeOk n))) := by
 refine PCalls.intro Tryz.call75 Tryz.func75 rfl Tryz.ntmps75 Tryz.results75 (by simp) ?_
 refine AW.sr trivial ?_
 refine AW.seq_j (fun s' σ' => σ' = Hp.empty ∧ s'.t 2 = .c (.bool (timeOk n))) ?_ ?_
 ·skip
  refine AW.reg0 ?_
  refine S.one trivial ?_
  (refine S.sp trivial fun b a4 => ?_; cases b <;> (try exact nope a4))
  all_goals iterate 5 refine S.one trivial ?_
  all_goals refine S.nil ?_
  all_goals simp only [ze, simprocAttr]
  all_goals (try simp only [bl] at *)
  all_goals (try simp only [V.c.injEq, Value.bool.injEq, Value.int.injEq, true_and, timeOk])
  all_goals exact shut
 rintro s σ ⟨rfl, e2⟩
 refine AW.ret ?_
 all_goals simp only [zs, simprocAttr, e2]
theorem letter_spec (c : UInt8) : PCalls Tryz.prog 108 [.c (.int .u8 c.toNat)] (fun r => r = .c (.bool (letter c))) := by
 refine PCalls.intro Tryz.call108 Tryz.func108 rfl Tryz.ntmps108 Tryz.results108 (by simp) ?_
 refine AW.sr trivial ?_
 refine AW.seq_j (fun s' σ' => σ' = Hp.empty ∧ s'.t 2 = .c (.bool (letter c))) ?_ ?_
 ·skip
  refine AW.reg0 ?_
  refine S.one trivial ?_
  (refine S.sp trivial fun b a4 => ?_; cases b <;> (try exact nope a4))
  all_goals iterate 2 refine S.one trivial ?_
  all_goals (first | (refine S.sp trivial fun b a7 => ?_; cases b <;> (try exact nope a7)) | refine S.one trivial ?_)
  all_goals iterate 3 refine S.one trivial ?_
  all_goals (first | (refine S.sp trivial fun b a11 => ?_; cases b <;> (try exact nope a11)) | refine S.one trivial ?_)
  all_goals iterate 2 refine S.one trivial ?_
  all_goals (first | (refine S.sp trivial fun b a14 => ?_; cases b <;> (try exact nope a14)) | refine S.one trivial ?_)
  all_goals iterate 7 refine S.one trivial ?_
  all_goals refine S.nil ?_
  all_goals simp only [ze, simprocAttr]
  all_goals (try simp only [bl] at *)
  all_goals (try simp only [V.c.injEq, Value.bool.injEq, Value.int.injEq, true_and, letter])
  all_goals exact shut
 rintro s σ ⟨rfl, e2⟩
 refine AW.ret ?_
 all_goals simp only [zs, simprocAttr, e2]
theorem rcheck_val (v : Val) : PCalls Tryz.prog 109 [.agg (encVal v)] (fun r => r = .c (.int .i64 (valErr v))) := by
 refine PCalls.intro Tryz.call109 Tryz.func109 rfl Tryz.ntmps109 Tryz.results109 (by simp) ?_
 refine AW.sr @encVal.eq_1 ?_
 refine AW.seq_k fun K2 h2 => ?_
 refine AW.seq_j (fun s' σ' => σ' = Hp.empty ∧ s'.t 26 = .c (.bool (valOk v))) ?_ ?_
 ·skip
  refine AW.reg0 ?_
  iterate 2 refine S.one trivial ?_
  (refine S.sp trivial fun b a5 => ?_; cases b <;> (try exact nope a5))
  all_goals iterate 3 refine S.one trivial ?_
  all_goals (first | (refine S.sp trivial fun b a9 => ?_; cases b <;> (try exact nope a9)) | refine S.one trivial ?_)
  all_goals iterate 4 refine S.one trivial ?_
  all_goals (first | (refine S.sp trivial fun b a14 => ?_; cases b <;> (try exact nope a14)) | refine S.one trivial ?_)
  all_goals iterate 3 refine S.one trivial ?_
  all_goals (first | (refine S.sp trivial fun b a18 => ?_; cases b <;> (try exact nope a18)) | refine S.one trivial ?_)
  all_goals iterate 8 refine S.one trivial ?_
  all_goals refine S.nil ?_
  all_goals simp only [ze, simprocAttr]
  all_goals (try simp only [bl] at *)
  all_goals (try simp only [V.c.injEq, Value.bool.injEq, Value.int.injEq, true_and, valOk])
  all_goals exact shut
 rintro s σ ⟨rfl, e26⟩
 refine AW.cond (b := valOk v) e26 (fun hc => ?_) (fun hc => AW.skip ?_)
 ·refine AW.sr trivial ?_
  refine AW.ret ?_
  simp only [zs, simprocAttr]
  simp [valErr, hc]
 ·simp only [zs, simprocAttr]
  all_goals apply_assumption
  refine AW.sr trivial ?_
  refine AW.ret ?_
  simp only [zs, simprocAttr]
  simp [valErr, hc]
theorem rname_spec (str : ByteArray) (hn : str.size < 4611686018427387904) : PCalls Tryz.prog 76 [.c (.string str)] (fun v => v = .c (.bool (isName str))) := by
 refine PCalls.intro Tryz.call76 Tryz.func76 rfl Tryz.ntmps76 Tryz.results76 (by simp) ?_
 refine AW.sr trivial ?_
 refine AW.seq_k fun K2 h2 => ?_
 refine AW.seq_j (fun s' σ' => σ' = Hp.empty ∧ s'.t 0 = .c (.string str) ∧ s'.t 10 = .c (.bool (decide (str.size = 0 ∨ 32 < str.size)))) ?_ ?_
 ·skip
  refine AW.reg0 ?_
  refine S.one trivial ?_
  (refine S.sp trivial fun b a5 => ?_; cases b <;> (try exact nope a5))
  all_goals iterate 5 refine S.one trivial ?_
  all_goals refine S.nil ?_
  all_goals simp only [ze, simprocAttr]
  all_goals (try simp only [bl] at *)
  all_goals (try simp only [V.c.injEq, Value.bool.injEq, Value.int.injEq, true_and])
  all_goals exact shut
 rintro s σ ⟨rfl, e0, e10⟩
 refine AW.cond (b := _) e10 (fun hc => ?_) (fun hc => ?_)
 ·refine AW.sr trivial ?_
  refine AW.ret ?_
  simp only [zs, simprocAttr]
  have hx := of_decide_eq_true hc
  rcases hx with hx | hx
  ·simp [isName, hx]
  ·have : decide (str.size ≤ 32) = false := by rw [decide_eq_false_iff_not]; omega
   simp [isName, this]
 ·refine AW.skip ?_
  have hx := of_decide_eq_false hc
  have hx0 : ¬ str.size = 0 := fun e => hx (.inl e)
  have hx1 : str.size ≤ 32 := by omega
  simp only [zs, simprocAttr]
  all_goals apply_assumption
  refine AW.seq_k fun K4 h4 => ?_
  refine AW.sr trivial ?_
  refine AW.block ?_   -- 0
  refine AW.loop (fun m s σ => σ = Hp.empty ∧ ∃ i : Nat, m + i = str.size ∧ s.t 0 = .c (.string str) ∧ s.t 3 = .c (.int .i64 i) ∧ nameL 0 str.data.toList = nameL i (str.data.toList.drop i)) str.size ?_ ?_
  ·refine ⟨rfl, 0, by simp, ?_⟩
   simp only [zs, reduceIte, Nat.reduceEqDiff, Nat.reduceLT, Nat.reduceLeDiff, Nat.reduceAdd, reduceCtorEq, Nat.reduceMul]
   exact ⟨e0, by simp, by simp⟩
  rintro m s σ ⟨rfl, i, hm, e0, e3, hp⟩
  refine AW.seq_k fun K6 h6 => ?_
  all_goals refine AW.sr (J2 e0 e3) ?_
  refine AW.cond (b := decide (i < str.size)) (by simp [ev]) (fun hc => ?_) (fun hc => ?_)
  ·refine AW.skip ?_
   simp only [zs, simprocAttr]
   all_goals apply_assumption
   have hi : i < str.size := by simpa using hc
   have hil : i < str.data.toList.length := by rw [Array.length_toList]; exact hi
   have hgd : str.data.getD i 0 = str.data.toList[i] := by
    have h2 : i < str.data.size := hi
    unfold Array.getD; rw [dif_pos h2]; simp
   generalize hcc : str.data.toList[i] = c at hgd
   have hd : str.data.toList.drop i = c :: str.data.toList.drop (i + 1) := by rw [← hcc]; exact List.drop_eq_getElem_cons hil
   refine AW.seq_k fun K8 h8 => ?_
   refine AW.block ?_   -- 1
   refine AW.seq_j (fun s' σ' => σ' = Hp.empty ∧ s'.t 0 = .c (.string str) ∧ s'.t 3 = .c (.int .i64 i) ∧ s'.t 37 = .c (.bool (!nameC i c))) ?_ ?_
   ·clear hp hd
    refine AW.reg0 ?_
    iterate 3 refine S.one (J4 e0 e3 hi hgd) ?_
    have q1q := J4 e0 e3 hi hgd
    (refine S.g rfl rfl fun Y Z => ?_; simp only [zz, simprocAttr, q1q]; refine PCalls.eqto (letter_spec _) ?_; refine S.bool fun b a20 => ?_; cases b <;> (try exact nope a20) <;> (refine Z _ _ ?_; clear Z Y))
    all_goals iterate 3 refine S.one q1q ?_
    all_goals (first | (refine S.sp q1q fun b a24 => ?_; cases b <;> (try exact nope a24)) | refine S.one trivial ?_)
    all_goals iterate 4 refine S.one q1q ?_
    all_goals (first | (refine S.sp q1q fun b a29 => ?_; cases b <;> (try exact nope a29)) | refine S.one trivial ?_)
    all_goals iterate 8 refine S.one q1q ?_
    all_goals refine S.nil ?_
    all_goals simp only [ze, simprocAttr, q1q]
    all_goals (try simp only [bl] at *)
    all_goals (try simp only [V.c.injEq, Value.bool.injEq, Value.int.injEq, true_and, nameC, a20])
    all_goals exact shut
   rintro s1 σ1 ⟨rfl, f0, f3, f37⟩
   rw [hd] at hp
   refine AW.cond (b := !nameC i c) f37 (fun ht => ?_) (fun hf => AW.skip ?_)
   ·refine AW.sr trivial ?_
    refine AW.ret ?_
    simp only [zs, simprocAttr]
    have hx : nameC i c = false := by simpa using ht
    simp [isName, hp, nameL, hx]
   ·simp only [zs, simprocAttr]
    all_goals apply_assumption
    have hw : IntKind.i64.wrap ((i : Int) + 1) = ((i + 1 : Nat) : Int) := by rw [wrap_small _ (by omega) (by omega)]; rfl
    refine AW.reg0 (S.rn (J2 f3 hw) ?_)
    simp only [ze, simprocAttr, f3, hw]
    have hx : nameC i c = true := by simpa using hf
    refine ⟨m - 1, by omega, i + 1, by omega, f0, rfl, ?_⟩
    rw [hp, nameL, hx, Bool.true_and]
  ·refine AW.exit ?_
   simp only [zs, simprocAttr]
   -- EXIT 0
   all_goals apply_assumption
   have hi : str.size ≤ i := by simpa using hc
   have hnil : str.data.toList.drop i = [] := List.drop_of_length_le (by rw [Array.length_toList]; exact hi)
   rw [hnil] at hp
   refine AW.sr trivial ?_
   refine AW.ret ?_
   simp only [zs, simprocAttr]
   have h2 : (str.size != 0) = true := by simpa using hx0
   simp only [V.c.injEq, Value.bool.injEq, isName, hp, nameL]
   rw [h2, Bool.true_and, Bool.true_and, eq_comm, decide_eq_true_eq]
   exact hx1
theorem rcheck_attrs (l : List Attr) (hl : okA l) : PCalls Tryz.prog 77 [.sl (l.map encAttr)] (fun r => r = .c (.int .i64 (attrsErr l))) := by
 refine PCalls.intro Tryz.call77 Tryz.func77 rfl Tryz.ntmps77 Tryz.results77 (by simp) ?_
 refine AW.sr trivial ?_
 refine AW.seq_k fun K2 h2 => ?_
 refine AW.sr trivial ?_
 refine AW.cond (b := decide ((l.length : Int) > 8)) (by simp [ev]) (fun hc => ?_) (fun hc => ?_)
 ·refine AW.sr trivial ?_
  refine AW.ret ?_
  simp only [zs, simprocAttr]
  have : 8 < l.length := by have := of_decide_eq_true hc; omega
  simp [attrsErr, this]
 ·refine AW.skip ?_
  simp only [zs, simprocAttr]
  all_goals apply_assumption
  have hlen : l.length ≤ 8 := by have := of_decide_eq_false hc; omega
  refine AW.seq_k fun K5 h5 => ?_
  refine AW.sr trivial ?_
  refine AW.block ?_   -- 0
  refine AW.loop (fun m s σ => σ = Hp.empty ∧ ∃ i : Nat, m + i = l.length ∧ s.t 0 = .sl (l.map encAttr) ∧ s.t 3 = .c (.int .i64 i) ∧ 
   attrsFrom none l = attrsFrom (if i = 0 then none else (l[i-1]?).map (·.name)) (l.drop i)) l.length ?_ ?_
  ·refine ⟨rfl, 0, by simp, ?_⟩
   simp only [zs, simprocAttr]
   simp
  rintro m s σ ⟨rfl, i, hm, e0, e11, hp⟩
  refine AW.seq_k fun K7 h7 => ?_
  refine AW.sr (J2 e0 e11) ?_
  refine AW.cond (b := decide (i < l.length)) (by simp [ev]) (fun hc => ?_) (fun hc => ?_)
  ·refine AW.skip ?_
   simp only [zs, simprocAttr]
   all_goals apply_assumption
   have hi : i < l.length := by simpa using hc
   have hg := getD_map (f := encAttr) hi
   have hd : l.drop i = l[i] :: l.drop (i + 1) := List.drop_eq_getElem_cons hi
   have hmem := hl _ (List.getElem_mem hi)
   generalize ha : l[i] = a at hg hd hmem
   obtain ⟨hn1, hn2⟩ := hmem
   refine AW.seq_k fun K9 h9 => ?_
   refine AW.block ?_   -- 1
   refine AW.seq_k fun K10 h10 => ?_
   refine AW.seq_k fun K11 h11 => ?_
   refine AW.reg0 ?_
   iterate 5 refine S.one (J5 e0 e11 hi hg @encAttr.eq_1) ?_
   have q1q := J5 e0 e11 hi hg @encAttr.eq_1
   (refine S.g rfl rfl fun Y Z => ?_; simp only [zz, simprocAttr, q1q]; refine PCalls.eqto (rname_spec _ (by assumption)) ?_ <;> (refine Z _ _ ?_; clear Z Y))
   refine S.one q1q ?_
   (refine S.nil ?_; simp only [ze, simprocAttr, q1q]; apply_assumption)
   refine AW.cond (b := !isName a.name) (by simp [ev]) (fun hc => ?_) (fun hc => ?_)
   ·refine AW.sr trivial ?_
    refine AW.ret ?_
    simp only [zs, simprocAttr]
    have hx : isName a.name = false := by simpa using hc
    have h8 : ¬ 8 < l.length := by omega
    simp [attrsErr, h8, hp, hd, attrsFrom, hx]
   ·refine AW.skip ?_
    simp only [zs, simprocAttr]
    all_goals apply_assumption
    have hx : isName a.name = true := by simpa using hc
    refine AW.seq_k fun K13 h13 => ?_
    refine AW.seq_k fun K14 h14 => ?_
    refine AW.reg0 ?_
    iterate 5 refine S.one (J5 e0 e11 hi hg @encAttr.eq_1) ?_
    have q2q := J5 e0 e11 hi hg @encAttr.eq_1
    (refine S.g rfl rfl fun Y Z => ?_; simp only [zz, simprocAttr, q2q]; refine PCalls.eqto (rcheck_val _) ?_ <;> (refine Z _ _ ?_; clear Z Y))
    refine S.one q2q ?_
    (refine S.nil ?_; simp only [ze, simprocAttr, q2q]; apply_assumption)
    refine AW.sr trivial ?_
    refine AW.cond (b := valErr a.v != 0) (by simp [ev]) (fun hc => ?_) (fun hc => ?_)
    ·refine AW.sr trivial ?_
     refine AW.ret ?_
     simp only [zs, simprocAttr]
     have hy : valErr a.v ≠ 0 := by simpa using hc
     have h8 : ¬ 8 < l.length := by omega
     simp [attrsErr, h8, hp, hd, attrsFrom, hx, hy]
    ·refine AW.skip ?_
     simp only [zs, simprocAttr]
     all_goals apply_assumption
     have hy : valErr a.v = 0 := by simpa using hc
     refine AW.seq_j (fun s' σ' => σ' = Hp.empty ∧ s'.t 0 = .sl (l.map encAttr) ∧ s'.t 3 = .c (.int .i64 i) ∧
      s'.t 45 = .c (.bool ((if i = 0 then none else (l[i-1]?).map (·.name)).any (leS a.name ·)))) ?_ ?_
     ·clear hp hd
      by_cases hi0 : i = 0
      ·subst hi0
       refine AW.dw [(0,0),(1,0),(2,0),(3,0),(4,0),(5,0),(6,0),(8,0),(9,0),(10,0),(11,0),(12,0),(7,1),(13,1),(14,0),(15,0)] ?_
       refine D.one (J2 e0 e11) ?_
       (refine D.sp (J2 e0 e11) fun b a31 => ?_; cases b <;> (try exact nope a31))
       iterate 14 refine D.one (J2 e0 e11) ?_
       refine D.nil ?_
       simp only [ze, simprocAttr, e0, e11]
       simp
      ·have hi1 : i - 1 < l.length := by omega
       have hg1 := getD_map (f := encAttr) hi1
       have hw : IntKind.i64.wrap ((i : Int) - 1) = ((i - 1 : Nat) : Int) := by rw [wrap_small _ (by omega) (by omega)]; omega
       refine AW.dw [(0,0),(1,0),(2,0),(3,0),(4,0),(5,0),(6,0),(8,0),(9,0),(10,0),(11,0),(12,0),(7,1),(13,1),(14,0),(15,0)] ?_
       have q3q := J8 e0 e11 hi hg hi1 hg1 @encAttr.eq_1 hw
       refine D.one q3q ?_
       (refine D.sp q3q fun b a31 => ?_; cases b <;> (try exact nope a31))
       iterate 14 refine D.one q3q ?_
       refine D.nil ?_
       simp only [ze, simprocAttr, q3q]
       simp [hi0, hi1, leS]
     rintro s1 σ1 ⟨rfl, f0, f11, f38⟩
     refine AW.cond (b := _) f38 (fun hc => ?_) (fun hc => ?_)
     ·refine AW.sr trivial ?_
      refine AW.ret ?_
      simp only [zs, simprocAttr]
      have h8 : ¬ 8 < l.length := by omega
      simp [attrsErr, h8, hp, hd, attrsFrom, hx, hy, hc]
     ·refine AW.skip ?_
      simp only [zs, simprocAttr]
      all_goals apply_assumption
      have hw : IntKind.i64.wrap ((i : Int) + 1) = ((i + 1 : Nat) : Int) := by rw [wrap_small _ (by omega) (by omega)]; rfl
      refine AW.reg0 (S.rn (J2 f11 hw) ?_)
      simp only [ze, simprocAttr, f11, hw]
      refine ⟨m - 1, by omega, i + 1, by omega, f0, rfl, ?_⟩
      rw [hp, hd, attrsFrom]
      simp [hx, hy, hc, ha, hi]
  ·refine AW.exit ?_
   simp only [zs, simprocAttr]
   -- EXIT 0
   all_goals apply_assumption
   refine AW.sr trivial ?_
   refine AW.ret ?_
   simp only [zs, simprocAttr]
   have hi : l.length ≤ i := by simpa using hc
   have h8 : ¬ 8 < l.length := by omega
   simp [attrsErr, h8, hp, List.drop_of_length_le hi, attrsFrom]
theorem rcheck_ev (e : Ev) (he : okE e) : PCalls Tryz.prog 41 [.agg (encEv e)] (fun r => r = .c (.int .i64 (evErr e))) := by
 have h1 := he.type
 have h2 := he.attrs
 refine PCalls.intro Tryz.call41 Tryz.func41 rfl Tryz.ntmps41 Tryz.results41 (by simp) ?_
 refine AW.sr @encEv.eq_1 ?_
 refine AW.seq_k fun K2 h2 => ?_
 refine AW.seq_j (fun s' σ' => σ' = Hp.empty ∧ s'.l 1 = some (encEv e) ∧ s'.t 1 = .lp 1 0 ∧ s'.t 31 = .c (.bool (decide (e.src < 0 ∨ 16 ≤ e.src ∨ timeOk e.seq = false ∨ timeOk e.time = false ∨ isName e.type = false)))) ?_ ?_
 ·skip
  refine AW.reg0 ?_
  iterate 3 refine S.one @encEv.eq_1 ?_
  (refine S.sp @encEv.eq_1 fun b a6 => ?_; cases b <;> (try exact nope a6))
  all_goals iterate 4 refine S.one @encEv.eq_1 ?_
  all_goals (first | (refine S.sp @encEv.eq_1 fun b a11 => ?_; cases b <;> (try exact nope a11)) | refine S.one trivial ?_)
  all_goals iterate 5 refine S.one @encEv.eq_1 ?_
  all_goals (first | (refine S.y rfl rfl rfl rfl fun Y Z => ?_; simp only [zz, simprocAttr, encEv]; refine PCalls.eqto (rtime_spec _) ?_; refine S.bool fun b a17 => ?_; cases b <;> (try exact nope a17) <;> (refine Z _ _ ?_; clear Z Y)) | refine S.one trivial ?_)
  all_goals iterate 5 refine S.one @encEv.eq_1 ?_
  all_goals (first | (refine S.y rfl rfl rfl rfl fun Y Z => ?_; simp only [zz, simprocAttr, encEv]; refine PCalls.eqto (rtime_spec _) ?_; refine S.bool fun b a23 => ?_; cases b <;> (try exact nope a23) <;> (refine Z _ _ ?_; clear Z Y)) | refine S.one trivial ?_)
  all_goals iterate 5 refine S.one @encEv.eq_1 ?_
  all_goals (first | (refine S.y rfl rfl rfl rfl fun Y Z => ?_; simp only [zz, simprocAttr, encEv]; refine PCalls.eqto (rname_spec _ (by assumption)) ?_ <;> (refine Z _ _ ?_; clear Z Y)) | refine S.one trivial ?_)
  all_goals iterate 2 refine S.one @encEv.eq_1 ?_
  all_goals refine S.nil ?_
  all_goals simp only [ze, simprocAttr, encEv]
  all_goals simp_all
  have k1 : ¬ e.src < 0 := by omega
  have k2 : ¬ 16 ≤ e.src := by omega
  simp [k1, k2]
 rintro s σ ⟨rfl, l1, e1, e31⟩
 rw [encEv] at l1
 refine AW.cond (b := _) e31 (fun hc => ?_) (fun hc => ?_)
 ·refine AW.sr trivial ?_
  refine AW.ret ?_
  simp only [zs, simprocAttr]
  have := of_decide_eq_true hc
  simp [evErr, this]
 ·refine AW.skip ?_
  simp only [zs, simprocAttr]
  all_goals apply_assumption
  refine AW.seq_k fun K4 h4 => ?_
  refine AW.reg0 ?_
  iterate 2 refine S.one (J2 e1 l1) ?_
  (refine S.g rfl rfl fun Y Z => ?_; simp only [zz, simprocAttr, e1, l1]; refine PCalls.eqto (rcheck_attrs _ (by assumption)) ?_ <;> (refine Z _ _ ?_; clear Z Y))
  all_goals refine S.one (J2 e1 l1) ?_
  all_goals (refine S.nil ?_; simp only [ze, simprocAttr, e1, l1]; apply_assumption)
  refine AW.ret ?_
  all_goals simp only [zs, simprocAttr]
  have := of_decide_eq_false hc
  simp only [evErr, if_neg this]
def idOf (b : Bd) : Int × Int := (b.ev.src, b.ev.seq)
theorem rcheck_part (l : List Bd) (hl : okP l) : PCalls Tryz.prog 49 [.agg [.sl (l.map encBd)]] (fun r => r = .c (.int .i64 (partErr l))) := by
 refine PCalls.intro Tryz.call49 Tryz.func49 rfl Tryz.ntmps49 Tryz.results49 (by simp) ?_
 refine AW.sr trivial ?_
 refine AW.sr trivial ?_
 refine AW.seq_k fun K3 h3 => ?_
 refine AW.sr trivial ?_
 refine AW.cond (b := decide ((l.length : Int) > 12)) (by simp [ev]) (fun hc => ?_) (fun hc => ?_)
 ·refine AW.sr trivial ?_
  refine AW.ret ?_
  simp only [zs, simprocAttr]
  have : 12 < l.length := by have := of_decide_eq_true hc; omega
  simp [partErr, this]
 ·refine AW.skip ?_
  simp only [zs, simprocAttr]
  all_goals apply_assumption
  have hlen : l.length ≤ 12 := by have := of_decide_eq_false hc; omega
  refine AW.seq_k fun K6 h6 => ?_
  refine AW.sr trivial ?_
  refine AW.block ?_   -- 0
  refine AW.loop (fun m s σ => σ = Hp.empty ∧ ∃ i : Nat, m + i = l.length ∧ s.t 3 = .sl (l.map encBd) ∧ s.t 4 = .c (.int .i64 i) ∧
   partFrom l.length none [] l = partFrom l.length (if i = 0 then none else (l[i-1]?).map (·.var)) ((l.take i).map idOf) (l.drop i)) l.length ?_ ?_
  ·refine ⟨rfl, 0, by simp, ?_⟩
   simp only [zs, simprocAttr]
   simp
  rintro m s σ ⟨rfl, i, hm, e3, e4, hp⟩
  refine AW.seq_k fun K8 h8 => ?_
  refine AW.sr (J2 e3 e4) ?_
  refine AW.cond (b := decide (i < l.length)) (by simp [ev]) (fun hc => ?_) (fun hc => ?_)
  ·refine AW.skip ?_
   simp only [zs, simprocAttr]
   all_goals apply_assumption
   have hi : i < l.length := by simpa using hc
   have hg := getD_map (f := encBd) hi
   have hd : l.drop i = l[i] :: l.drop (i + 1) := List.drop_eq_getElem_cons hi
   have hmem := hl _ (List.getElem_mem hi)
   have htk : l.take (i + 1) = l.take i ++ [l[i]] := by rw [List.take_append_getElem]
   generalize ha : l[i] = a at hg hd hmem htk
   have hn1 := hmem.var
   have hn2 := hmem.ev
   have h8 : ¬ 12 < l.length := by omega
   refine AW.seq_k fun K10 h10 => ?_
   refine AW.block ?_   -- 1
   refine AW.seq_j (fun s' σ' => σ' = Hp.empty ∧ s'.t 3 = .sl (l.map encBd) ∧ s'.t 4 = .c (.int .i64 i) ∧ named l.length a = true ∧ (if i = 0 then none else (l[i-1]?).map (·.var)).any (leS a.var ·) = false) ?_ ?_
   ·refine AW.seq_j (fun s' σ' => σ' = Hp.empty ∧ s'.t 3 = .sl (l.map encBd) ∧ s'.t 4 = .c (.int .i64 i) ∧
     s'.t 55 = .c (.bool (!named l.length a || (if i = 0 then none else (l[i-1]?).map (·.var)).any (leS a.var ·)))) ?_ ?_
    ·clear hp hd hl hmem htk h8
     by_cases hi0 : i = 0
     ·have hpb : (if i = 0 then none else (l[i-1]?).map (·.var)).any (leS a.var ·) = false := by simp [hi0]
      rw [hpb]
      refine AW.dw [(0,0),(1,0),(2,0),(3,0),(4,1),(5,2),(6,0),(7,0),(8,0),(9,0),(10,0),(11,0),(12,1),(13,0),(14,0),(15,0),(16,0),(17,0),(18,0),(19,0),(20,0),(21,0),(22,0),(23,0),(24,0),(25,0),(26,0),(27,0),(29,0),(30,0),(31,0),(32,0),(33,0),(28,1),(34,1),(35,0),(36,0),(37,0)] ?_
      have q1q := J5 e3 e4 hi hg @encBd.eq_1
      iterate 5 refine D.one q1q ?_
      have q2q := J5 e3 e4 hi hg @encBd.eq_1
      (refine D.g rfl trivial rfl rfl fun Y Z => ?_; simp only [zz, simprocAttr, q2q]; refine PCalls.eqto (rname_spec _ (by assumption)) ?_; refine S.bool fun b a23 => ?_; cases b <;> (try exact nope a23) <;> (refine Z _ _ ?_; clear Z Y))
      all_goals iterate 7 refine D.one q2q ?_
      all_goals (first | (refine D.sp q2q fun b a31 => ?_; cases b <;> (try exact nope a31)) | refine D.one trivial ?_)
      all_goals iterate 3 refine D.one q2q ?_
      all_goals (first | (refine D.sp q2q fun b a35 => ?_; cases b <;> (try exact nope a35)) | refine D.one trivial ?_)
      all_goals iterate 4 refine D.one q2q ?_
      all_goals (first | (refine D.sp q2q fun b a40 => ?_; cases b <;> (try exact nope a40)) | refine D.one trivial ?_)
      all_goals iterate 15 refine D.one q2q ?_
      all_goals refine D.nil ?_
      all_goals simp only [ze, simprocAttr, q2q]
      all_goals clear hpb hg hn2 hn1 hc
      all_goals (try simp only [bl] at *)
      all_goals (try simp only [V.c.injEq, Value.bool.injEq, Value.int.injEq, true_and, named, a23])
      all_goals exact shut
     ·have hi1 : i - 1 < l.length := by omega
      have hpb : (if i = 0 then none else (l[i-1]?).map (·.var)).any (leS a.var ·) = leS a.var l[i-1].var := by simp [hi0, hi1]
      obtain ⟨q, hq⟩ : ∃ q, leS a.var l[i-1].var = q := ⟨_, rfl⟩
      have hle : (Op.bytesLess a.var.toList l[i-1].var.toList || a.var.toList == l[i-1].var.toList) = q := hq
      rw [hpb, hq]
      have hg1 := getD_map (f := encBd) hi1
      have hw : IntKind.i64.wrap ((i : Int) - 1) = ((i - 1 : Nat) : Int) := by rw [wrap_small _ (by omega) (by omega)]; omega
      refine AW.dw [(0,0),(1,0),(2,0),(3,0),(4,1),(5,2),(6,0),(7,0),(8,0),(9,0),(10,0),(11,0),(12,1),(13,0),(14,0),(15,0),(16,0),(17,0),(18,0),(19,0),(20,0),(21,0),(22,0),(23,0),(24,0),(25,0),(26,0),(27,0),(29,0),(30,0),(31,0),(32,0),(33,0),(28,1),(34,1),(35,0),(36,0),(37,0)] ?_
      have q3q := J9 e3 e4 hi hg @encBd.eq_1 hi1 hg1 hw hle
      iterate 5 refine D.one q3q ?_
      have q4q := J9 e3 e4 hi hg @encBd.eq_1 hi1 hg1 hw hle
      (refine D.g rfl trivial rfl rfl fun Y Z => ?_; simp only [zz, simprocAttr, q4q]; refine PCalls.eqto (rname_spec _ (by assumption)) ?_; refine S.bool fun b a23 => ?_; cases b <;> (try exact nope a23) <;> (refine Z _ _ ?_; clear Z Y))
      all_goals iterate 7 refine D.one q4q ?_
      all_goals (first | (refine D.sp q4q fun b a31 => ?_; cases b <;> (try exact nope a31)) | refine D.one trivial ?_)
      all_goals iterate 3 refine D.one q4q ?_
      all_goals (first | (refine D.sp q4q fun b a35 => ?_; cases b <;> (try exact nope a35)) | refine D.one trivial ?_)
      all_goals iterate 4 refine D.one q4q ?_
      all_goals (first | (refine D.sp q4q fun b a40 => ?_; cases b <;> (try exact nope a40)) | refine D.one trivial ?_)
      all_goals iterate 15 refine D.one q4q ?_
      all_goals refine D.nil ?_
      all_goals simp only [ze, simprocAttr, q4q]
      all_goals clear hpb hg hn2 hn1 hc hg1 hw hle hq
      all_goals cases q
      all_goals (try simp only [bl] at *)
      all_goals (try simp only [V.c.injEq, Value.bool.injEq, Value.int.injEq, true_and, named, a23])
      all_goals exact shut
    rintro s2 σ2 ⟨rfl, g3, g4, g55⟩
    refine AW.cond (b := _) g55 (fun hc => ?_) (fun hc => ?_)
    ·refine AW.sr trivial ?_
     refine AW.ret ?_
     simp only [zs, simprocAttr]
     have hx : named l.length a = false ∨ (if i = 0 then none else (l[i-1]?).map (·.var)).any (leS a.var ·) = true ∨ (a.ev.src, a.ev.seq) ∈ (l.take i).map idOf := by
      simp only [Bool.or_eq_true, Bool.not_eq_true'] at hc
      rcases hc with h | h
      ·exact .inl h
      ·exact .inr (.inl h)
     simp only [partErr, if_neg h8, hp, hd, partFrom, if_pos hx, and_self]
    ·refine AW.skip ?_
     simp only [zs, simprocAttr]
     simp only [Bool.or_eq_false_iff, Bool.not_eq_false'] at hc
     exact ⟨g3, g4, hc.1, hc.2⟩
   rintro s2 σ2 ⟨rfl, g3, g4, hx1, hx2⟩
   refine AW.seq_j (fun s' σ' => σ' = Hp.empty ∧ s'.t 3 = .sl (l.map encBd) ∧ s'.t 4 = .c (.int .i64 i) ∧ (a.ev.src, a.ev.seq) ∉ (l.take i).map idOf) ?_ ?_
   ·refine AW.sr trivial ?_
    refine AW.block ?_   -- 2
    refine AW.loop (fun m s σ => σ = Hp.empty ∧ ∃ k : Nat, m + k = i ∧ s.t 3 = .sl (l.map encBd) ∧ s.t 4 = .c (.int .i64 i) ∧ s.t 5 = .c (.int .i64 k) ∧ (a.ev.src, a.ev.seq) ∉ (l.take k).map idOf) i ?_ ?_
    ·refine ⟨rfl, 0, by simp, ?_⟩
     simp only [zs, reduceIte, Nat.reduceEqDiff, Nat.reduceLT, Nat.reduceLeDiff, Nat.reduceAdd, reduceCtorEq, Nat.reduceMul]
     exact ⟨g3, g4, rfl, by simp⟩
    rintro m2 s3 σ3 ⟨rfl, k, hm2, j3, j4, j5, hk⟩
    refine AW.seq_k fun K13 h13 => ?_
    all_goals refine AW.sr (J2 j4 j5) ?_
    refine AW.cond (b := decide ((k : Int) < i)) (by simp [ev]) (fun hc => ?_) (fun hc => ?_)
    ·refine AW.skip ?_
     simp only [zs, simprocAttr]
     all_goals apply_assumption
     have hki : k < i := by have := of_decide_eq_true hc; omega
     have hkl : k < l.length := by omega
     have hgk := getD_map (f := encBd) hkl
     have htkk : l.take (k + 1) = l.take k ++ [l[k]] := by rw [List.take_append_getElem]
     generalize hak : l[k] = b at hgk htkk
     refine AW.seq_k fun K15 h15 => ?_
     refine AW.block ?_   -- 3
     refine AW.seq_k fun K16 h16 => ?_
     refine AW.dv { sd := fun _ => false, eqk := eqTab } [(0,0),(1,0),(2,0),(3,0),(4,0),(6,0),(7,0),(8,0),(9,0),(10,0),(5,1),(11,1),(12,0)] ?_ eqTab_ok
     have q5q := J8 j3 j4 j5 hi hg hkl hgk @encBd.eq_1
     iterate 12 refine D.one q5q ?_
     refine D.one (J12 @eqk45 @fitsAll.eq_1 @fitsAll.eq_2 @fitsAll.eq_3 @SK.fits.eq_1 @SK.fits.eq_2 @SK.fits.eq_3 @SK.fits.eq_4 @cellsEq.eq_1 @cellsEq.eq_2 @cellsEq.eq_3 (J12 @cellEq.eq_1 @cellEq.eq_2 @cellEq.eq_3 @cellEq.eq_4 j3 j4 j5 hi hg hkl hgk @encBd.eq_1)) ?_
     (refine D.nil ?_; apply_assumption)
     refine AW.cond (b := _) (by simp only [ev, St.put_t, Nat.reduceEqDiff, if_true]; rfl) (fun hc => ?_) (fun hc => ?_)
     ·refine AW.sr trivial ?_
      refine AW.ret ?_
      simp only [zs, simprocAttr]
      have hx : named l.length a = false ∨ (if i = 0 then none else (l[i-1]?).map (·.var)).any (leS a.var ·) = true ∨ (a.ev.src, a.ev.seq) ∈ (l.take i).map idOf := by
       refine .inr (.inr (List.mem_map.2 ⟨b, ?_, ?_⟩))
       ·rw [← hak, ← List.getElem_take (j := i) (h := by rw [List.length_take]; omega)]
        exact List.getElem_mem _
       ·simp only [Bool.and_eq_true, beq_iff_eq] at hc
        simp [idOf, hc.1, hc.2]
      simp only [partErr, if_neg h8, hp, hd, partFrom, if_pos hx, and_self]
     ·refine AW.skip ?_
      simp only [zs, simprocAttr]
      all_goals apply_assumption
      have hw : IntKind.i64.wrap ((k : Int) + 1) = ((k + 1 : Nat) : Int) := by rw [wrap_small _ (by omega) (by omega)]; rfl
      refine AW.reg0 (S.rn (J2 j5 hw) ?_)
      simp only [ze, simprocAttr, j5, hw]
      refine ⟨m2 - 1, by omega, k + 1, by omega, j3, j4, rfl, ?_⟩
      rw [htkk, List.map_append, List.mem_append]
      rintro (h | h)
      ·exact hk h
      ·simp only [List.map_cons, List.map_nil, List.mem_singleton, idOf, Prod.mk.injEq] at h
       rw [h.1, h.2] at hc
       simp at hc
    ·refine AW.exit ?_
     simp only [zs, simprocAttr]
     have hki : k = i := by have := of_decide_eq_false hc; omega
     subst hki
     exact ⟨j3, j4, hk⟩
   rintro s3 σ3 ⟨rfl, j3, j4, hx3⟩
   have hx : ¬ (named l.length a = false ∨ (if i = 0 then none else (l[i-1]?).map (·.var)).any (leS a.var ·) = true ∨ (a.ev.src, a.ev.seq) ∈ (l.take i).map idOf) := by
    rintro (h | h | h)
    ·rw [hx1] at h; cases h
    ·rw [hx2] at h; cases h
    ·exact hx3 h
   refine AW.seq_k fun K18 h18 => ?_
   all_goals refine AW.reg0 ?_
   all_goals iterate 5 refine S.one (J5 j3 j4 hi hg @encBd.eq_1) ?_
   all_goals have q6q := J5 j3 j4 hi hg @encBd.eq_1
   all_goals (refine S.g rfl rfl fun Y Z => ?_; simp only [zz, simprocAttr, q6q]; refine PCalls.eqto (rcheck_ev _ (by assumption)) ?_ <;> (refine Z _ _ ?_; clear Z Y))
   all_goals refine S.one q6q ?_
   all_goals (refine S.nil ?_; simp only [ze, simprocAttr, q6q]; apply_assumption)
   all_goals refine AW.sr trivial ?_
   refine AW.cond (b := evErr a.ev != 0) (by simp [ev]) (fun hc => ?_) (fun hc => ?_)
   ·refine AW.sr trivial ?_
    refine AW.ret ?_
    simp only [zs, simprocAttr]
    have hy : evErr a.ev ≠ 0 := by simpa using hc
    simp only [partErr, if_neg h8, hp, hd, partFrom, if_neg hx, if_pos hy, and_self]
   ·refine AW.skip ?_
    simp only [zs, simprocAttr]
    all_goals apply_assumption
    have hy : evErr a.ev = 0 := by simpa using hc
    have hw : IntKind.i64.wrap ((i : Int) + 1) = ((i + 1 : Nat) : Int) := by rw [wrap_small _ (by omega) (by omega)]; rfl
    refine AW.reg0 (S.rn (J2 j4 hw) ?_)
    simp only [ze, simprocAttr, j4, hw]
    refine ⟨m - 1, by omega, i + 1, by omega, j3, rfl, ?_⟩
    rw [hp, hd, partFrom, if_neg hx, if_neg (fun e => e hy), htk]
    simp [ha, hi, idOf]
  ·refine AW.exit ?_
   simp only [zs, simprocAttr]
   -- EXIT 0
   all_goals apply_assumption
   refine AW.sr trivial ?_
   refine AW.ret ?_
   simp only [zs, simprocAttr]
   have hi : l.length ≤ i := by simpa using hc
   have h8 : ¬ 12 < l.length := by omega
   simp [partErr, h8, hp, List.drop_of_length_le hi, partFrom]
set_option maxHeartbeats 4000000
def allEq {α : Type} (f : α → α → Bool) : List α → List α → Bool
  | [], [] => true
  | a :: l, b :: m => f a b && allEq f l m
  | _, _ => false
def eqAttr (a b : Attr) : Bool := a.name.toList == b.name.toList && (a.v.kind == b.v.kind && (a.v.n == b.v.n && a.v.s.toList == b.v.s.toList))
def encS (s : ByteArray) : List V := [.c (.string s)]
def eqS (a b : ByteArray) : Bool := a.toList == b.toList
def hasS (l : List ByteArray) (s : ByteArray) : Bool := l.any (eqS · s)
theorem eqS_symm (a b : ByteArray) : eqS a b = eqS b a := by
 rw [Bool.eq_iff_iff, eqS, eqS, beq_iff_eq, beq_iff_eq]; exact ⟨Eq.symm, Eq.symm⟩
theorem eqS_iff {a b : ByteArray} : eqS a b = true ↔ a = b := by
 rw [eqS, beq_iff_eq, ByteArray.toList_eq, ByteArray.toList_eq]
 refine ⟨fun h => ?_, fun h => by rw [h]⟩
 cases a; cases b
 exact congrArg _ (Array.toList_inj.1 h)
theorem hasS_iff {l : List ByteArray} {s : ByteArray} : hasS l s = true ↔ s ∈ l := by
 simp only [hasS, List.any_eq_true, eqS_iff]
 exact ⟨fun ⟨x, h, e⟩ => e ▸ h, fun h => ⟨s, h, rfl⟩⟩
def idxS (s : ByteArray) : Nat → List ByteArray → Int
  | _, [] => -1
  | i, x :: l => if eqS x s then (i : Int) else idxS s (i + 1) l
theorem hasS_cons (x : ByteArray) (r : List ByteArray) (s : ByteArray) : hasS (x :: r) s = (x.toList == s.toList || hasS r s) := rfl
theorem idxS_has (s : ByteArray) : ∀ (l : List ByteArray) (i : Nat), decide (idxS s i l ≥ 0) = hasS l s
  | [], i => rfl
  | x :: l, i => by
    have ih := idxS_has s l (i + 1)
    rw [hasS_cons, idxS]
    by_cases h : eqS x s = true
    · rw [if_pos h]
      have h' : (x.toList == s.toList) = true := h
      rw [h', Bool.true_or]; simp
    · rw [if_neg h]
      have h' : (x.toList == s.toList) = false := by simpa [eqS] using h
      rw [h', Bool.false_or]; exact ih
theorem str_get {l : List ByteArray} {i : Nat} (h : i < l.length) : ∃ x, l[i]? = some x ∧ (l.map encS).getD i [] = [.c (.string x)] ∧ l.drop i = x :: l.drop (i + 1) := ⟨l[i], List.getElem?_eq_getElem h, getD_map h, List.drop_eq_getElem_cons h⟩
theorem indexS_spec (l : List ByteArray) (str : ByteArray) (hl : l.length < 4611686018427387904) : PCalls Tryz.prog 149 [.sl (l.map encS), .c (.string str)] (fun v => v = .c (.int .i64 (idxS str 0 l))) := by
 refine PCalls.intro Tryz.call149 Tryz.func149 rfl Tryz.ntmps149 Tryz.results149 (by simp) ?_
 refine AW.sr trivial ?_
 refine AW.seq_k fun K2 h2 => ?_
 refine AW.sr @List.length_map.{0,0} ?_
 refine AW.block ?_   -- 0
 refine AW.loop (fun m s σ => σ = Hp.empty ∧ ∃ i : Nat, m + i = l.length ∧ s.t 0 = .sl (l.map encS) ∧ s.t 1 = .c (.string str) ∧ s.t 7 = .c (.int .i64 (l.length : Nat)) ∧ s.t 8 = .c (.int .i64 (i : Nat)) ∧ idxS str 0 l = idxS str i (l.drop i)) l.length ?_ ?_
 ·refine ⟨rfl, 0, by simp, ?_⟩
  simp only [zs, simprocAttr]
  all_goals ((try and_intros) <;> first | rfl | assumption | (simp))
 rintro m s σ ⟨rfl, i, hm, e0, e1, e7, e8, hp⟩
 refine AW.sr (J2 e7 e8) ?_
 refine AW.seq_k fun K5 h5 => ?_
 refine AW.cond (b := decide (i < l.length)) (by simp [ev]) (fun hc => ?_) (fun hc => ?_)
 ·have hi := of_decide_eq_true hc
  obtain ⟨x, hx, hg, hd⟩ := str_get hi
  have hw := wadd1 (a := i) (by omega)
  rw [hd, idxS, eqS_symm, eqS] at hp
  refine AW.skip ?_
  simp only [zs, simprocAttr]
  all_goals apply_assumption
  refine AW.seq_k fun K6 h6 => ?_
  refine AW.block ?_   -- 1
  refine AW.sr e8 ?_
  refine AW.sr (J5 e0 e1 hi hg @List.length_map.{0,0}) ?_
  refine AW.cond (b := str.toList == x.toList) (by simp [ev]) (fun hc2 => ?_) (fun hc2 => ?_)
  ·refine AW.sr trivial ?_
   refine AW.ret ?_
   simp only [zs, simprocAttr]
   rw [hp, if_pos hc2]
  ·refine AW.skip ?_
   simp only [zs, simprocAttr]
   all_goals apply_assumption
   rw [hc2] at hp
   have q1q := J5 e8 hw e0 e1 e7
   refine AW.reg0 (S.rn q1q ?_)
   simp only [ze, simprocAttr, q1q]
   refine ⟨m - 1, by omega, i + 1, by omega, ?_⟩
   all_goals ((try and_intros) <;> first | rfl | assumption | (simpa using hp))
 ·have hi := of_decide_eq_false hc
  refine AW.exit ?_
  simp only [zs, simprocAttr]
  all_goals apply_assumption
  rw [List.drop_of_length_le (by omega), idxS] at hp
  refine AW.sr trivial ?_
  refine AW.ret ?_
  simp only [zs, simprocAttr]
  rw [hp]
theorem containsS_spec (l : List ByteArray) (str : ByteArray) (hl : l.length < 4611686018427387904) : PCalls Tryz.prog 120 [.sl (l.map encS), .c (.string str)] (fun v => v = .c (.bool (hasS l str))) := by
 have hh := idxS_has str l 0
 refine PCalls.intro Tryz.call120 Tryz.func120 rfl Tryz.ntmps120 Tryz.results120 (by simp) ?_
 refine AW.sr trivial ?_
 refine AW.seq_k fun K2 h2 => ?_
 refine AW.reg0 ?_
 iterate 2 refine S.one hh ?_
 (refine S.g rfl rfl fun Y Z => ?_; simp only [zz, simprocAttr, hh]; refine PCalls.eqto (indexS_spec _ _ hl) ?_ <;> (refine Z _ _ ?_; clear Z Y))
 iterate 2 refine S.one hh ?_
 (refine S.nil ?_; simp only [ze, simprocAttr, hh]; apply_assumption)
 refine AW.ret ?_
 simp only [zs, simprocAttr]
theorem rhasS_spec (l : List ByteArray) (str : ByteArray) (hl : l.length < 4611686018427387904) : PCalls Tryz.prog 74 [.sl (l.map encS), .c (.string str)] (fun v => v = .c (.bool (hasS l str))) := by
 refine PCalls.intro Tryz.call74 Tryz.func74 rfl Tryz.ntmps74 Tryz.results74 (by simp) ?_
 refine AW.sr trivial ?_
 refine AW.seq_k fun K2 h2 => ?_
 refine AW.sr trivial ?_
 refine AW.block ?_   -- 0
 refine AW.loop (fun m s σ => σ = Hp.empty ∧ ∃ i : Nat, m + i = l.length ∧ s.t 0 = .sl (l.map encS) ∧ s.t 1 = .c (.string str) ∧ s.t 5 = .c (.int .i64 (i : Nat)) ∧ hasS l str = hasS (l.drop i) str) l.length ?_ ?_
 ·refine ⟨rfl, 0, by simp, ?_⟩
  simp only [zs, simprocAttr]
  all_goals ((try and_intros) <;> first | rfl | assumption | (simp))
 rintro m s σ ⟨rfl, i, hm, e0, e1, e5, hp⟩
 refine AW.seq_k fun K4 h4 => ?_
 refine AW.sr (J3 e0 e5 @List.length_map.{0,0}) ?_
 refine AW.cond (b := decide (i < l.length)) (by simp [ev]) (fun hc => ?_) (fun hc => ?_)
 ·have hi := of_decide_eq_true hc
  obtain ⟨x, hx, hg, hd⟩ := str_get hi
  have hw := wadd1 (a := i) (by omega)
  rw [hd, hasS_cons] at hp
  refine AW.skip ?_
  simp only [zs, simprocAttr]
  all_goals apply_assumption
  refine AW.seq_k fun K6 h6 => ?_
  refine AW.block ?_   -- 1
  refine AW.sr (J6 e0 e1 e5 hi hg @List.length_map.{0,0}) ?_
  refine AW.cond (b := x.toList == str.toList) (by simp [ev]) (fun hc2 => ?_) (fun hc2 => ?_)
  ·refine AW.sr trivial ?_
   refine AW.ret ?_
   simp only [zs, simprocAttr]
   rw [hc2, Bool.true_or] at hp
   all_goals ((try and_intros) <;> first | rfl | assumption | (rw [hp]))
  ·refine AW.skip ?_
   simp only [zs, simprocAttr]
   all_goals apply_assumption
   rw [hc2, Bool.false_or] at hp
   have q1q := J4 e0 e1 e5 hw
   refine AW.reg0 (S.rn q1q ?_)
   simp only [ze, simprocAttr, q1q]
   refine ⟨m - 1, by omega, i + 1, by omega, ?_⟩
   all_goals ((try and_intros) <;> first | rfl | assumption | (exact hp))
 ·have hi := of_decide_eq_false hc
  refine AW.exit ?_
  simp only [zs, simprocAttr]
  all_goals apply_assumption
  rw [List.drop_of_length_le (by omega)] at hp
  refine AW.sr trivial ?_
  refine AW.ret ?_
  simp only [zs, simprocAttr]
  rw [hp]; rfl
def valNone (v : Val) : Bool := decide (v.kind = 0 ∧ v.n = 0 ∧ v.s.size = 0)
def opdVar (vars : List ByteArray) (o : Opd) : Bool := if vars.length = 0 then decide (o.var.size = 0) else hasS vars o.var
def opdOk (vars : List ByteArray) (o : Opd) : Bool :=
  if o.attr.size = 0 then decide (o.var.size = 0) && valOk o.v else valNone o.v && isName o.attr && opdVar vars o
def cndBad (vars : List ByteArray) (c : Cnd) : Bool :=
  decide (c.rel < 1 ∨ c.rel > 6) || !opdOk vars c.l || !opdOk vars c.r || (decide (c.l.attr.size = 0) && decide (c.r.attr.size = 0))
structure okO (o : Opd) : Prop where
  attr : o.attr.size < 4611686018427387904
structure okC (c : Cnd) : Prop where
  l : okO c.l
  r : okO c.r
theorem operand_spec (o : Opd) (vars : List ByteArray) (ho : okO o) (hv : vars.length < 4611686018427387904) : PCalls Tryz.prog 145 [.agg (encO o), .sl (vars.map encS)] (fun v => v = .c (.bool (opdOk vars o))) := by
 refine PCalls.intro Tryz.call145 Tryz.func145 rfl Tryz.ntmps145 Tryz.results145 (by simp) ?_
 refine AW.sr @encO.eq_1 ?_
 refine AW.seq_k fun K2 h2 => ?_
 refine AW.sr trivial ?_
 refine AW.cond (b := decide (o.attr.size = 0)) (by simp [ev]) (fun hc => ?_) (fun hc => ?_)
 ·have hc := of_decide_eq_true hc
  refine AW.seq_j (fun s' σ' => σ' = Hp.empty ∧ s'.t 4 = .c (.bool (decide (o.var.size = 0) && valOk o.v))) ?_ ?_
  ·skip
   refine AW.reg0 ?_
   iterate 2 refine S.one trivial ?_
   (refine S.sp trivial fun b a10 => ?_; cases b <;> (try exact nope a10))
   all_goals iterate 3 refine S.one trivial ?_
   all_goals (first | (refine S.y rfl rfl rfl rfl fun Y Z => ?_; simp only [zz, simprocAttr]; refine PCalls.eqto (check_val o.v) ?_ <;> (refine Z _ _ ?_; clear Z Y)) | refine S.one trivial ?_)
   all_goals iterate 3 refine S.one trivial ?_
   all_goals refine S.nil ?_
   all_goals simp only [ze, simprocAttr]
   all_goals (cases h : valOk o.v <;> simp_all [valErr])
  rintro s σ ⟨rfl, e4⟩
  refine AW.ret ?_
  all_goals simp only [zs, simprocAttr, e4]
  all_goals ((try and_intros) <;> first | rfl | assumption | (simp [opdOk, hc]))
 ·have hc := of_decide_eq_false hc
  refine AW.skip ?_
  simp only [zs, simprocAttr]
  all_goals apply_assumption
  refine AW.seq_k fun K4 h4 => ?_
  refine AW.seq_j (fun s' σ' => σ' = Hp.empty ∧ s'.t 2 = .lp 2 0 ∧ s'.l 2 = some (encO o) ∧ s'.t 1 = .sl (vars.map encS) ∧ s'.t 26 = .c (.bool (!(valNone o.v && isName o.attr)))) ?_ ?_
  ·skip
   refine AW.region (T := { eqk := eqTab }) (eqTab_ok) rfl ?_
   iterate 3 refine S.one trivial ?_
   (refine S.sp (J12 @eqk104 @fitsAll.eq_1 @fitsAll.eq_2 @fitsAll.eq_3 @SK.fits.eq_1 @SK.fits.eq_2 @SK.fits.eq_3 @SK.fits.eq_4 @cellsEq.eq_1 @cellsEq.eq_2 @cellsEq.eq_3 (J4 @cellEq.eq_1 @cellEq.eq_2 @cellEq.eq_3 @cellEq.eq_4)) fun b a20 => ?_; cases b <;> (try exact nope a20))
   all_goals iterate 3 refine S.one trivial ?_
   all_goals (first | (refine S.y rfl rfl rfl rfl fun Y Z => ?_; simp only [zz, simprocAttr]; refine PCalls.eqto (name_spec _ ho.attr) ?_ <;> (refine Z _ _ ?_; clear Z Y)) | refine S.one trivial ?_)
   all_goals iterate 2 refine S.one trivial ?_
   all_goals refine S.nil ?_
   all_goals simp only [ze, simprocAttr]
   all_goals simp_all [valNone, encO]
  rintro s σ ⟨rfl, e2, l2, e1, e26⟩
  refine AW.cond (b := !(valNone o.v && isName o.attr)) e26 (fun hb => ?_) (fun hb => ?_)
  ·refine AW.sr trivial ?_
   refine AW.ret ?_
   simp only [zs, simprocAttr]
   all_goals ((try and_intros) <;> first | rfl | assumption | ((cases h1 : valNone o.v <;> cases h2 : isName o.attr <;> simp_all [opdOk])))
  refine AW.skip ?_
  all_goals simp only [zs, simprocAttr]
  all_goals apply_assumption
  refine AW.seq_k fun K6 h6 => ?_
  all_goals refine AW.sr (J2 e1 @List.length_map.{0,0}) ?_
  refine AW.cond (b := ((vars.length : Int) == 0)) (by simp [ev]) (fun hn => ?_) (fun hn => ?_)
  ·have hn : vars.length = 0 := by simpa using hn
   refine AW.sr (J3 e2 l2 @encO.eq_1) ?_
   refine AW.ret ?_
   simp only [zs, simprocAttr]
   all_goals ((try and_intros) <;> first | rfl | assumption | (simp_all [opdOk, opdVar]))
  ·have hn : ¬ vars.length = 0 := by simpa using hn
   refine AW.skip ?_
   simp only [zs, simprocAttr]
   all_goals apply_assumption
   refine AW.seq_k fun K9 h9 => ?_
   refine AW.reg0 ?_
   iterate 3 refine S.one (J4 e1 e2 l2 @encO.eq_1) ?_
   have q1q := J4 e1 e2 l2 @encO.eq_1
   (refine S.g rfl rfl fun Y Z => ?_; simp only [zz, simprocAttr, q1q]; refine PCalls.eqto (containsS_spec _ _ hv) ?_ <;> (refine Z _ _ ?_; clear Z Y))
   all_goals refine S.one q1q ?_
   all_goals (refine S.nil ?_; simp only [ze, simprocAttr, q1q]; apply_assumption)
   refine AW.ret ?_
   all_goals simp only [zs, simprocAttr]
   all_goals ((try and_intros) <;> first | rfl | assumption | (simp_all [opdOk, opdVar]))
theorem Cond_spec (c : Cnd) (vars : List ByteArray) (hc : okC c) (hv : vars.length < 4611686018427387904) : PCalls Tryz.prog 113 [.agg (encC c), .sl (vars.map encS)] (fun v => v = .c (.int .i64 (if cndBad vars c then 74 else 0))) := by
 have hl := hc.l
 have hr := hc.r
 refine PCalls.intro Tryz.call113 Tryz.func113 rfl Tryz.ntmps113 Tryz.results113 (by simp) ?_
 refine AW.sr (J2 @encC.eq_1 @encO.eq_1) ?_
 refine AW.seq_k fun K2 h2 => ?_
 refine AW.seq_j (fun s' σ' => σ' = Hp.empty ∧ s'.t 38 = .c (.bool (cndBad vars c))) ?_ ?_
 ·skip
  refine AW.reg0 ?_
  iterate 2 refine S.one trivial ?_
  (refine S.sp trivial fun b a7 => ?_; cases b <;> (try exact nope a7))
  all_goals iterate 3 refine S.one trivial ?_
  all_goals (first | (refine S.sp trivial fun b a11 => ?_; cases b <;> (try exact nope a11)) | refine S.one trivial ?_)
  all_goals iterate 5 refine S.one trivial ?_
  all_goals (first | (refine S.y rfl rfl rfl rfl fun Y Z => ?_; simp only [zz, simprocAttr]; refine PCalls.eqto (operand_spec _ _ (by assumption) hv) ?_; refine S.bool fun b a17 => ?_; cases b <;> (try exact nope a17) <;> (refine Z _ _ ?_; clear Z Y)) | refine S.one trivial ?_)
  all_goals iterate 6 refine S.one trivial ?_
  all_goals (first | (refine S.y rfl rfl rfl rfl fun Y Z => ?_; simp only [zz, simprocAttr]; refine PCalls.eqto (operand_spec _ _ (by assumption) hv) ?_; refine S.bool fun b a24 => ?_; cases b <;> (try exact nope a24) <;> (refine Z _ _ ?_; clear Z Y)) | refine S.one trivial ?_)
  all_goals iterate 6 refine S.one trivial ?_
  all_goals (first | (refine S.sp trivial fun b a31 => ?_; cases b <;> (try exact nope a31)) | refine S.one trivial ?_)
  all_goals iterate 7 refine S.one trivial ?_
  all_goals refine S.nil ?_
  all_goals simp only [ze, simprocAttr]
  all_goals simp_all [cndBad]
  all_goals omega
 rintro s σ ⟨rfl, e38⟩
 refine AW.cond (b := cndBad vars c) e38 (fun hb => ?_) (fun hb => ?_)
 ·refine AW.sr trivial ?_
  refine AW.ret ?_
  simp only [zs, simprocAttr]
  all_goals ((try and_intros) <;> first | rfl | assumption | (simp_all))
 ·refine AW.skip ?_
  simp only [zs, simprocAttr]
  all_goals apply_assumption
  refine AW.sr trivial ?_
  refine AW.ret ?_
  simp only [zs, simprocAttr]
  all_goals ((try and_intros) <;> first | rfl | assumption | (simp_all))
theorem roperand_spec (o : Opd) (vars : List ByteArray) (ho : okO o) (hv : vars.length < 4611686018427387904) : PCalls Tryz.prog 116 [.agg (encO o), .sl (vars.map encS)] (fun v => v = .c (.bool (opdOk vars o))) := by
 refine PCalls.intro Tryz.call116 Tryz.func116 rfl Tryz.ntmps116 Tryz.results116 (by simp) ?_
 refine AW.sr @encO.eq_1 ?_
 refine AW.seq_k fun K2 h2 => ?_
 refine AW.sr trivial ?_
 refine AW.cond (b := decide (o.attr.size = 0)) (by simp [ev]) (fun hc => ?_) (fun hc => ?_)
 ·have hc := of_decide_eq_true hc
  refine AW.seq_j (fun s' σ' => σ' = Hp.empty ∧ s'.t 4 = .c (.bool (decide (o.var.size = 0) && valOk o.v))) ?_ ?_
  ·skip
   refine AW.reg0 ?_
   iterate 2 refine S.one trivial ?_
   (refine S.sp trivial fun b a11 => ?_; cases b <;> (try exact nope a11))
   all_goals iterate 3 refine S.one trivial ?_
   all_goals (first | (refine S.y rfl rfl rfl rfl fun Y Z => ?_; simp only [zz, simprocAttr]; refine PCalls.eqto (rcheck_val o.v) ?_ <;> (refine Z _ _ ?_; clear Z Y)) | refine S.one trivial ?_)
   all_goals iterate 3 refine S.one trivial ?_
   all_goals refine S.nil ?_
   all_goals simp only [ze, simprocAttr]
   all_goals (cases h : valOk o.v <;> simp_all [valErr])
  rintro s σ ⟨rfl, e4⟩
  refine AW.ret ?_
  all_goals simp only [zs, simprocAttr, e4]
  all_goals ((try and_intros) <;> first | rfl | assumption | (simp [opdOk, hc]))
 ·have hc := of_decide_eq_false hc
  refine AW.skip ?_
  simp only [zs, simprocAttr]
  all_goals apply_assumption
  refine AW.sr trivial ?_
  refine AW.seq_j (fun s' σ' => σ' = Hp.empty ∧ s'.t 2 = .lp 2 0 ∧ s'.l 2 = some (encO o) ∧ s'.t 5 = .c (.bool (opdVar vars o))) ?_ ?_
  ·refine AW.sr @List.length_map.{0,0} ?_
   refine AW.cond (b := decide ((vars.length : Int) > 0)) (by simp [ev]) (fun hn => ?_) (fun hn => ?_)
   ·have hn : ¬ vars.length = 0 := by have := of_decide_eq_true hn; omega
    refine AW.reg0 ?_
    iterate 3 refine S.one trivial ?_
    (refine S.g rfl rfl fun Y Z => ?_; simp only [zz, simprocAttr]; refine PCalls.eqto (rhasS_spec _ _ hv) ?_ <;> (refine Z _ _ ?_; clear Z Y))
    all_goals refine S.one trivial ?_
    all_goals refine S.nil ?_
    all_goals simp only [ze, simprocAttr]
    all_goals simp_all [opdVar, encO]
   ·have hn : vars.length = 0 := by have := of_decide_eq_false hn; omega
    refine AW.skip ?_
    simp only [zs, simprocAttr]
    all_goals ((try and_intros) <;> first | rfl | assumption | (simp_all [opdVar, encO]))
  rintro s σ ⟨rfl, e2, l2, e5⟩
  refine AW.seq_j (fun s' σ' => σ' = Hp.empty ∧ s'.t 4 = .c (.bool (opdOk vars o))) ?_ ?_
  ·cases hov : opdVar vars o <;> rw [hov] at e5
   all_goals refine AW.region (T := { eqk := eqTab }) (eqTab_ok) rfl ?_
   all_goals have q1q := J4 e2 l2 e5 @encO.eq_1
   all_goals iterate 5 refine S.one q1q ?_
   all_goals (first | (refine S.sp (J12 @eqk104 @fitsAll.eq_1 @fitsAll.eq_2 @fitsAll.eq_3 @SK.fits.eq_1 @SK.fits.eq_2 @SK.fits.eq_3 @SK.fits.eq_4 @cellsEq.eq_1 @cellsEq.eq_2 @cellsEq.eq_3 (J8 @cellEq.eq_1 @cellEq.eq_2 @cellEq.eq_3 @cellEq.eq_4 e2 l2 e5 @encO.eq_1)) fun b a33 => ?_; cases b <;> (try exact nope a33)) | refine S.one trivial ?_)
   all_goals iterate 4 refine S.one q1q ?_
   all_goals have q2q := J4 e2 l2 e5 @encO.eq_1
   all_goals (first | (refine S.y rfl rfl rfl rfl fun Y Z => ?_; simp only [zz, simprocAttr, q2q]; refine PCalls.eqto (rname_spec _ ho.attr) ?_ <;> (refine Z _ _ ?_; clear Z Y)) | refine S.one trivial ?_)
   all_goals iterate 2 refine S.one q2q ?_
   all_goals refine S.nil ?_
   all_goals simp only [ze, simprocAttr, q2q]
   all_goals simp_all [opdOk, valNone, encO]
  rintro s σ ⟨rfl, e4⟩
  refine AW.ret ?_
  all_goals simp only [zs, simprocAttr, e4]
  all_goals ((try and_intros) <;> first | rfl | assumption | (rfl))
theorem rCond_spec (c : Cnd) (vars : List ByteArray) (hc : okC c) (hv : vars.length < 4611686018427387904) : PCalls Tryz.prog 83 [.agg (encC c), .sl (vars.map encS)] (fun v => v = .c (.int .i64 (if cndBad vars c then 74 else 0))) := by
 have hl := hc.l
 have hr := hc.r
 refine PCalls.intro Tryz.call83 Tryz.func83 rfl Tryz.ntmps83 Tryz.results83 (by simp) ?_
 refine AW.sr (J2 @encC.eq_1 @encO.eq_1) ?_
 refine AW.seq_k fun K2 h2 => ?_
 refine AW.seq_j (fun s' σ' => σ' = Hp.empty ∧ s'.t 38 = .c (.bool (cndBad vars c))) ?_ ?_
 ·skip
  refine AW.reg0 ?_
  iterate 2 refine S.one trivial ?_
  (refine S.sp trivial fun b a7 => ?_; cases b <;> (try exact nope a7))
  all_goals iterate 3 refine S.one trivial ?_
  all_goals (first | (refine S.sp trivial fun b a11 => ?_; cases b <;> (try exact nope a11)) | refine S.one trivial ?_)
  all_goals iterate 5 refine S.one trivial ?_
  all_goals (first | (refine S.y rfl rfl rfl rfl fun Y Z => ?_; simp only [zz, simprocAttr]; refine PCalls.eqto (roperand_spec _ _ (by assumption) hv) ?_; refine S.bool fun b a17 => ?_; cases b <;> (try exact nope a17) <;> (refine Z _ _ ?_; clear Z Y)) | refine S.one trivial ?_)
  all_goals iterate 6 refine S.one trivial ?_
  all_goals (first | (refine S.y rfl rfl rfl rfl fun Y Z => ?_; simp only [zz, simprocAttr]; refine PCalls.eqto (roperand_spec _ _ (by assumption) hv) ?_; refine S.bool fun b a24 => ?_; cases b <;> (try exact nope a24) <;> (refine Z _ _ ?_; clear Z Y)) | refine S.one trivial ?_)
  all_goals iterate 6 refine S.one trivial ?_
  all_goals (first | (refine S.sp trivial fun b a31 => ?_; cases b <;> (try exact nope a31)) | refine S.one trivial ?_)
  all_goals iterate 7 refine S.one trivial ?_
  all_goals refine S.nil ?_
  all_goals simp only [ze, simprocAttr]
  all_goals simp_all [cndBad]
  all_goals omega
 rintro s σ ⟨rfl, e38⟩
 refine AW.cond (b := cndBad vars c) e38 (fun hb => ?_) (fun hb => ?_)
 ·refine AW.sr trivial ?_
  refine AW.ret ?_
  simp only [zs, simprocAttr]
  all_goals ((try and_intros) <;> first | rfl | assumption | (simp_all))
 ·refine AW.skip ?_
  simp only [zs, simprocAttr]
  all_goals apply_assumption
  refine AW.sr trivial ?_
  refine AW.ret ?_
  simp only [zs, simprocAttr]
  all_goals ((try and_intros) <;> first | rfl | assumption | (simp_all))
def cndsBad (vars : List ByteArray) (l : List Cnd) : Bool := l.any (cndBad vars)
def cndsErr (vars : List ByteArray) (l : List Cnd) : Int := if decide (16 < l.length) || cndsBad vars l then 74 else 0
theorem cndsBad_cons (vars : List ByteArray) (c : Cnd) (l : List Cnd) : cndsBad vars (c :: l) = (cndBad vars c || cndsBad vars l) := rfl
theorem cnd_get {l : List Cnd} {i : Nat} (h : i < l.length) : ∃ x, l[i]? = some x ∧ x ∈ l ∧ (l.map encC).getD i [] = encC x ∧ l.drop i = x :: l.drop (i + 1) := ⟨l[i], List.getElem?_eq_getElem h, List.getElem_mem h, getD_map h, List.drop_eq_getElem_cons h⟩
theorem encC_take (c : Cnd) : (encC c).take 11 = encC c := rfl
theorem encC_drop (c : Cnd) : (encC c).drop 11 = [] := rfl
theorem encC_wk (c : Cnd) : (encC c).map wk1 = encC c := rfl
theorem cd : (∀ n : Cnd, (encC n).length = 11) ∧ (∀ n : Cnd, (encC n).take 11 = encC n) ∧ (∀ n : Cnd, (encC n).drop 11 = []) ∧ (∀ n : Cnd, (encC n).map wk1 = encC n) := ⟨encC_len, encC_take, encC_drop, encC_wk⟩
theorem conds_spec (l : List Cnd) (vars : List ByteArray) (hl : ∀ c ∈ l, okC c) (hll : l.length < 4611686018427387904) (hv : vars.length < 4611686018427387904) : PCalls Tryz.prog 81 [.sl (l.map encC), .sl (vars.map encS)] (fun v => v = .c (.int .i64 (cndsErr vars l))) := by
 refine PCalls.intro Tryz.call81 Tryz.func81 rfl Tryz.ntmps81 Tryz.results81 (by simp) ?_
 refine AW.sr trivial ?_
 refine AW.seq_k fun K2 h2 => ?_
 refine AW.sr @List.length_map.{0,0} ?_
 refine AW.cond (b := decide ((l.length : Int) > 16)) (by simp [ev]) (fun hc => ?_) (fun hc => ?_)
 ·have hc : 16 < l.length := by have := of_decide_eq_true hc; omega
  refine AW.sr trivial ?_
  refine AW.ret ?_
  simp only [zs, simprocAttr]
  all_goals ((try and_intros) <;> first | rfl | assumption | (simp [cndsErr, hc]))
 have hc : ¬ 16 < l.length := by have := of_decide_eq_false hc; omega
 refine AW.skip ?_
 simp only [zs, simprocAttr]
 all_goals apply_assumption
 refine AW.seq_k fun K5 h5 => ?_
 refine AW.sr @List.length_map.{0,0} ?_
 refine AW.block ?_   -- 0
 refine AW.loop (fun m s σ => σ = Hp.empty ∧ ∃ i : Nat, m + i = l.length ∧ s.t 11 = .sl (l.map encC) ∧ s.t 12 = .c (.int .i64 (l.length : Nat)) ∧ s.t 13 = .c (.int .i64 (i : Nat)) ∧ s.t 1 = .sl (vars.map encS) ∧ cndsBad vars l = cndsBad vars (l.drop i)) l.length ?_ ?_
 ·refine ⟨rfl, 0, by simp, ?_⟩
  simp only [zs, simprocAttr]
  all_goals ((try and_intros) <;> first | rfl | assumption | (simp))
 rintro m s σ ⟨rfl, i, hm, e11, e12, e13, e1, hp⟩
 refine AW.sr (J2 e13 e12) ?_
 refine AW.seq_k fun K8 h8 => ?_
 refine AW.cond (b := decide (i < l.length)) (by simp [ev]) (fun hi => ?_) (fun hi => ?_)
 ·have hi := of_decide_eq_true hi
  obtain ⟨x, hx, hxm, hg, hd⟩ := cnd_get hi
  have hw := wadd1 (a := i) (by omega)
  rw [hd, cndsBad_cons] at hp
  refine AW.skip ?_
  simp only [zs, simprocAttr]
  all_goals apply_assumption
  refine AW.seq_k fun K9 h9 => ?_
  refine AW.block ?_   -- 1
  refine AW.sr (J6 e11 e13 hi hg @cd @List.length_map.{0,0}) ?_
  refine AW.seq_k fun K11 h11 => ?_
  refine AW.reg0 ?_
  iterate 2 refine S.one (J2 e1 @cd) ?_
  (refine S.g rfl rfl fun Y Z => ?_; simp only [zz, simprocAttr, e1, cd]; refine PCalls.eqto (Cond_spec x vars (hl x hxm) hv) ?_ <;> (refine Z _ _ ?_; clear Z Y))
  refine S.one (J2 e1 @cd) ?_
  (refine S.nil ?_; simp only [ze, simprocAttr, e1, cd]; apply_assumption)
  refine AW.sr trivial ?_
  refine AW.cond (b := cndBad vars x) (by cases h : cndBad vars x <;> simp [ev]) (fun hb => ?_) (fun hb => ?_)
  ·refine AW.sr trivial ?_
   refine AW.ret ?_
   simp only [zs, simprocAttr]
   all_goals ((try and_intros) <;> first | rfl | assumption | (simp [cndsErr, hp, hb]))
  ·refine AW.skip ?_
   simp only [zs, simprocAttr]
   all_goals apply_assumption
   rw [hb, Bool.false_or] at hp
   have q1q := J5 e13 hw e11 e12 e1
   refine AW.reg0 (S.rn q1q ?_)
   simp only [ze, simprocAttr, q1q]
   refine ⟨m - 1, by omega, i + 1, by omega, ?_⟩
   all_goals ((try and_intros) <;> first | rfl | assumption | (exact hp))
 ·have hi := of_decide_eq_false hi
  refine AW.exit ?_
  simp only [zs, simprocAttr]
  all_goals apply_assumption
  rw [List.drop_of_length_le (by omega)] at hp
  have hp : cndsBad vars l = false := hp
  refine AW.sr trivial ?_
  refine AW.ret ?_
  simp only [zs, simprocAttr]
  all_goals ((try and_intros) <;> first | rfl | assumption | (simp [cndsErr, hp, hc]))
def leafBad (n : Nd) : Bool := decide (n.kids.length > 0) || !isName n.var || !isName n.type
def joinBad (n : Nd) : Bool := decide (n.kids.length < 2) || decide (n.var.size ≠ 0) || decide (n.type.size ≠ 0) || decide (n.tests.length > 0)
def ndOwn (n : Nd) : Int := if n.kind = 1 then (if leafBad n then 71 else cndsErr [] n.tests) else if n.kind = 2 ∨ n.kind = 3 ∨ n.kind = 4 then (if joinBad n then 71 else 0) else 71
def firstErr : List Int → Int
  | [] => 0
  | e :: l => if e = 0 then firstErr l else e
def Nd.err (n : Nd) : Int := n.para fun n l => if ndOwn n = 0 then firstErr l else ndOwn n
theorem Nd.err_eq (n : Nd) : n.err = if ndOwn n = 0 then firstErr (n.kids.map Nd.err) else ndOwn n := Nd.para_eq _ n
structure Nd.okOwn (n : Nd) : Prop where
  var : n.var.size < 4611686018427387904
  type : n.type.size < 4611686018427387904
  len : n.tests.length < 4611686018427387904
  tests : ∀ c ∈ n.tests, okC c
def Nd.ok (n : Nd) : Prop := n.para fun n l => n.okOwn ∧ ∀ p ∈ l, p
theorem Nd.ok_eq (n : Nd) : n.ok = (n.okOwn ∧ ∀ p ∈ n.kids.map Nd.ok, p) := Nd.para_eq _ n
theorem Nd.ok.own {n : Nd} (h : n.ok) : n.okOwn := by rw [Nd.ok_eq] at h; exact h.1
theorem Nd.ok.kid {n x : Nd} (h : n.ok) (hx : x ∈ n.kids) : x.ok := by rw [Nd.ok_eq] at h; exact h.2 _ (List.mem_map_of_mem hx)
theorem node_spec : ∀ n : Nd, n.small → n.ok → PCalls Tryz.prog 61 [.agg (encNd n)] (fun v => v = .c (.int .i64 n.err)) := Nd.ind fun n ih hn ho => by
 have hl := hn.len
 have hv := ho.own.var
 have ht := ho.own.type
 have htl := ho.own.len
 have q1 : ((n.kids.length : Int) < 2) = (n.kids.length < 2) := by rw [eq_iff_iff]; omega
 have q2 : ((n.tests.length : Int) > 0) = (n.tests.length > 0) := by rw [eq_iff_iff]; omega
 have q3 : ((n.kids.length : Int) > 0) = (n.kids.length > 0) := by rw [eq_iff_iff]; omega
 have hts := ho.own.tests
 rw [encNd_eq]
 refine PCalls.intro Tryz.call61 Tryz.func61 rfl Tryz.ntmps61 Tryz.results61 (by simp) ?_
 refine AW.sr trivial ?_
 refine AW.seq_j (fun s' σ' => σ' = Hp.empty ∧ s'.t 1 = .lp 1 0 ∧ s'.l 1 = some [.c (.int .i64 n.kind), .c (.string n.var), .c (.string n.type), .sl (n.tests.map encC), .sl (n.kids.map encNd)] ∧ ndOwn n = 0) ?_ ?_
 ·refine AW.sr trivial ?_
  refine AW.block ?_   -- 0
  refine AW.sr trivial ?_
  refine AW.cond (b := n.kind == 1) (by simp [ev]) (fun hk => ?_) (fun hk => ?_)
  ·have hk : n.kind = 1 := by simpa using hk
   refine AW.seq_k fun K4 h4 => ?_
   refine AW.seq_j (fun s' σ' => σ' = Hp.empty ∧ s'.t 1 = .lp 1 0 ∧ s'.l 1 = some [.c (.int .i64 n.kind), .c (.string n.var), .c (.string n.type), .sl (n.tests.map encC), .sl (n.kids.map encNd)] ∧ s'.t 26 = .c (.bool (leafBad n))) ?_ ?_
   ·skip
    refine AW.reg0 ?_
    have q1q := J2 q3 @List.length_map.{0,0}
    iterate 3 refine S.one q1q ?_
    (refine S.sp q1q fun b a14 => ?_; cases b <;> (try exact nope a14))
    all_goals iterate 3 refine S.one q1q ?_
    all_goals have q2q := J2 q3 @List.length_map.{0,0}
    all_goals (first | (refine S.y rfl rfl rfl rfl fun Y Z => ?_; simp only [zz, simprocAttr, q2q]; (first | refine PCalls.eqto (name_spec _ hv) ?_ | refine PCalls.eqto (name_spec _ ht) ?_); refine S.bool fun b a18 => ?_; cases b <;> (try exact nope a18) <;> (refine Z _ _ ?_; clear Z Y)) | refine S.one trivial ?_)
    all_goals iterate 5 refine S.one q2q ?_
    all_goals have q3q := J2 q3 @List.length_map.{0,0}
    all_goals (first | (refine S.y rfl rfl rfl rfl fun Y Z => ?_; simp only [zz, simprocAttr, q3q]; (first | refine PCalls.eqto (name_spec _ hv) ?_ | refine PCalls.eqto (name_spec _ ht) ?_) <;> (refine Z _ _ ?_; clear Z Y)) | refine S.one trivial ?_)
    all_goals iterate 2 refine S.one q3q ?_
    all_goals refine S.nil ?_
    all_goals simp only [ze, simprocAttr, q3q]
    all_goals simp_all [leafBad]
   rintro s σ ⟨rfl, e1, l1, e26⟩
   refine AW.cond (b := leafBad n) e26 (fun hb => ?_) (fun hb => ?_)
   ·refine AW.sr trivial ?_
    refine AW.ret ?_
    simp only [zs, simprocAttr]
    all_goals ((try and_intros) <;> first | rfl | assumption | (simp [Nd.err_eq, ndOwn, hk, hb]))
   refine AW.skip ?_
   all_goals simp only [zs, simprocAttr]
   all_goals apply_assumption
   refine AW.seq_k fun K6 h6 => ?_
   all_goals refine AW.reg0 ?_
   all_goals iterate 2 refine S.one (J3 e1 l1 @List.length_map.{0,0}) ?_
   all_goals have q4q := J3 e1 l1 @List.length_map.{0,0}
   all_goals (refine S.g rfl rfl fun Y Z => ?_; simp only [zz, simprocAttr, q4q]; refine PCalls.eqto (conds_spec n.tests [] hts htl (by decide)) ?_ <;> (refine Z _ _ ?_; clear Z Y))
   all_goals refine S.one q4q ?_
   all_goals (refine S.nil ?_; simp only [ze, simprocAttr, q4q]; apply_assumption)
   all_goals refine AW.sr trivial ?_
   refine AW.cond (b := cndsErr [] n.tests != 0) (by simp [ev]) (fun hc => ?_) (fun hc => ?_)
   ·refine AW.sr trivial ?_
    refine AW.ret ?_
    simp only [zs, simprocAttr]
    all_goals ((try and_intros) <;> first | rfl | assumption | (simp_all [Nd.err_eq, ndOwn]))
   ·refine AW.skip ?_
    simp only [zs, simprocAttr]
    all_goals ((try and_intros) <;> first | rfl | assumption | (simp_all [ndOwn]))
  ·have hk : ¬ n.kind = 1 := by simpa using hk
   refine AW.seq_j (fun s' σ' => σ' = Hp.empty ∧ s'.t 1 = .lp 1 0 ∧ s'.l 1 = some [.c (.int .i64 n.kind), .c (.string n.var), .c (.string n.type), .sl (n.tests.map encC), .sl (n.kids.map encNd)] ∧ s'.t 33 = .c (.bool (decide (n.kind = 2 ∨ n.kind = 3 ∨ n.kind = 4)))) ?_ ?_
   ·refine AW.sr trivial ?_
    refine AW.cond (b := n.kind == 2) (by simp [ev]) (fun h2 => ?_) (fun h2 => ?_)
    ·refine AW.skip ?_
     simp only [zs, simprocAttr]
     all_goals ((try and_intros) <;> first | rfl | assumption | (simp_all))
    all_goals refine AW.sr trivial ?_
    refine AW.cond (b := n.kind == 3) (by simp [ev]) (fun h3 => ?_) (fun h3 => ?_)
    ·refine AW.skip ?_
     simp only [zs, simprocAttr]
     all_goals ((try and_intros) <;> first | rfl | assumption | (simp_all))
    all_goals refine AW.reg0 (S.rn trivial ?_)
    all_goals simp only [ze, simprocAttr]
    all_goals simp_all
    all_goals (rw [Bool.eq_iff_iff]; simp)
   rintro s σ ⟨rfl, e1, l1, e33⟩
   refine AW.cond (b := decide (n.kind = 2 ∨ n.kind = 3 ∨ n.kind = 4)) e33 (fun h4 => ?_) (fun h4 => ?_)
   ·have h4 := of_decide_eq_true h4
    refine AW.seq_j (fun s' σ' => σ' = Hp.empty ∧ s'.t 1 = .lp 1 0 ∧ s'.l 1 = some [.c (.int .i64 n.kind), .c (.string n.var), .c (.string n.type), .sl (n.tests.map encC), .sl (n.kids.map encNd)] ∧ s'.t 56 = .c (.bool (joinBad n))) ?_ ?_
    ·skip
     refine AW.reg0 ?_
     have q5q := J5 e1 l1 q1 q2 @List.length_map.{0,0}
     iterate 3 refine S.one q5q ?_
     (refine S.sp q5q fun b a40 => ?_; cases b <;> (try exact nope a40))
     all_goals iterate 3 refine S.one q5q ?_
     all_goals (first | (refine S.sp q5q fun b a44 => ?_; cases b <;> (try exact nope a44)) | refine S.one trivial ?_)
     all_goals iterate 4 refine S.one q5q ?_
     all_goals (first | (refine S.sp q5q fun b a49 => ?_; cases b <;> (try exact nope a49)) | refine S.one trivial ?_)
     all_goals iterate 7 refine S.one q5q ?_
     all_goals refine S.nil ?_
     all_goals simp only [ze, simprocAttr, q5q]
     all_goals simp_all [joinBad]
     all_goals omega
    rintro s σ ⟨rfl, e1, l1, e56⟩
    refine AW.cond (b := joinBad n) e56 (fun hb => ?_) (fun hb => ?_)
    ·refine AW.sr trivial ?_
     refine AW.ret ?_
     simp only [zs, simprocAttr]
     all_goals ((try and_intros) <;> first | rfl | assumption | (simp [Nd.err_eq, ndOwn, hk, hb, h4]))
    ·refine AW.skip ?_
     simp only [zs, simprocAttr]
     all_goals ((try and_intros) <;> first | rfl | assumption | (simp [ndOwn, hk, hb, h4]))
   ·have h4 := of_decide_eq_false h4
    refine AW.sr trivial ?_
    refine AW.ret ?_
    simp only [zs, simprocAttr]
    all_goals ((try and_intros) <;> first | rfl | assumption | (simp [Nd.err_eq, ndOwn, hk, h4]))
 rintro s σ ⟨rfl, e1, l1, h0⟩
 have he : n.err = firstErr (n.kids.map Nd.err) := by rw [Nd.err_eq, if_pos h0]
 refine AW.seq_k fun K13 h13 => ?_
 all_goals refine AW.sr (J3 e1 l1 @List.length_map.{0,0}) ?_
 refine AW.block ?_   -- 1
 refine AW.loop (fun m s σ => σ = Hp.empty ∧ ∃ i : Nat, m + i = n.kids.length ∧ s.t 58 = .sl (n.kids.map encNd) ∧ s.t 59 = .c (.int .i64 (n.kids.length : Nat)) ∧ s.t 60 = .c (.int .i64 (i : Nat)) ∧ n.err = firstErr ((n.kids.drop i).map Nd.err)) n.kids.length ?_ ?_
 ·refine ⟨rfl, 0, by simp, ?_⟩
  simp only [zs, simprocAttr]
  all_goals ((try and_intros) <;> first | rfl | assumption | (simpa using he))
 rintro m s σ ⟨rfl, i, hm, e58, e59, e60, hp⟩
 all_goals refine AW.sr (J2 e60 e59) ?_
 refine AW.seq_k fun K16 h16 => ?_
 refine AW.cond (b := decide (i < n.kids.length)) (by simp [ev]) (fun hi => ?_) (fun hi => ?_)
 ·have hi := of_decide_eq_true hi
  obtain ⟨x, hx, hxm, hg⟩ := kid_get hi
  have hd : n.kids.drop i = x :: n.kids.drop (i + 1) := by
   rw [List.drop_eq_getElem_cons hi]; congr 1; rw [List.getElem?_eq_getElem hi] at hx; exact Option.some.inj hx
  have hw := wadd1 (a := i) (by omega)
  rw [hd, List.map_cons, firstErr] at hp
  refine AW.skip ?_
  simp only [zs, simprocAttr]
  all_goals apply_assumption
  refine AW.seq_k fun K17 h17 => ?_
  refine AW.block ?_   -- 2
  refine AW.sr (J6 e58 e60 hi hg @nd @List.length_map.{0,0}) ?_
  refine AW.seq_k fun K19 h19 => ?_
  refine AW.reg0 ?_
  refine S.one @nd ?_
  (refine S.g rfl rfl fun Y Z => ?_; simp only [zz, simprocAttr, nd]; refine PCalls.eqto (ih x hxm (hn.kid hxm) (ho.kid hxm)) ?_ <;> (refine Z _ _ ?_; clear Z Y))
  all_goals refine S.one @nd ?_
  all_goals (refine S.nil ?_; simp only [ze, simprocAttr, nd]; apply_assumption)
  all_goals refine AW.sr trivial ?_
  refine AW.cond (b := x.err != 0) (by simp [ev]) (fun hb => ?_) (fun hb => ?_)
  ·refine AW.sr trivial ?_
   refine AW.ret ?_
   simp only [zs, simprocAttr]
   all_goals ((try and_intros) <;> first | rfl | assumption | (simp_all))
  ·refine AW.skip ?_
   simp only [zs, simprocAttr]
   all_goals apply_assumption
   have hb : x.err = 0 := by simpa using hb
   rw [if_pos hb] at hp
   have q6q := J4 e58 e59 e60 hw
   refine AW.reg0 (S.rn q6q ?_)
   simp only [ze, simprocAttr, q6q]
   refine ⟨m - 1, by omega, i + 1, by omega, ?_⟩
   all_goals ((try and_intros) <;> first | rfl | assumption | (exact hp))
 ·have hi := of_decide_eq_false hi
  refine AW.exit ?_
  simp only [zs, simprocAttr]
  all_goals apply_assumption
  rw [List.drop_of_length_le (by omega)] at hp
  have hp : n.err = 0 := hp
  refine AW.sr trivial ?_
  refine AW.ret ?_
  simp only [zs, simprocAttr]
  all_goals ((try and_intros) <;> first | rfl | assumption | (rw [hp]))
theorem rnode_spec : ∀ n : Nd, n.small → n.ok → PCalls Tryz.prog 71 [.agg (encNd n)] (fun v => v = .c (.int .i64 n.err)) := Nd.ind fun n ih hn ho => by
 have hl := hn.len
 have hv := ho.own.var
 have ht := ho.own.type
 have htl := ho.own.len
 have q1 : ((n.kids.length : Int) < 2) = (n.kids.length < 2) := by rw [eq_iff_iff]; omega
 have q2 : ((n.tests.length : Int) > 0) = (n.tests.length > 0) := by rw [eq_iff_iff]; omega
 have q3 : ((n.kids.length : Int) > 0) = (n.kids.length > 0) := by rw [eq_iff_iff]; omega
 have hts := ho.own.tests
 rw [encNd_eq]
 refine PCalls.intro Tryz.call71 Tryz.func71 rfl Tryz.ntmps71 Tryz.results71 (by simp) ?_
 refine AW.sr trivial ?_
 refine AW.seq_j (fun s' σ' => σ' = Hp.empty ∧ s'.t 1 = .lp 1 0 ∧ s'.l 1 = some [.c (.int .i64 n.kind), .c (.string n.var), .c (.string n.type), .sl (n.tests.map encC), .sl (n.kids.map encNd)] ∧ ndOwn n = 0) ?_ ?_
 ·refine AW.sr trivial ?_
  refine AW.block ?_   -- 0
  refine AW.sr trivial ?_
  refine AW.cond (b := n.kind == 1) (by simp [ev]) (fun hk => ?_) (fun hk => ?_)
  ·have hk : n.kind = 1 := by simpa using hk
   refine AW.seq_k fun K4 h4 => ?_
   refine AW.seq_j (fun s' σ' => σ' = Hp.empty ∧ s'.t 1 = .lp 1 0 ∧ s'.l 1 = some [.c (.int .i64 n.kind), .c (.string n.var), .c (.string n.type), .sl (n.tests.map encC), .sl (n.kids.map encNd)] ∧ s'.t 26 = .c (.bool (leafBad n))) ?_ ?_
   ·skip
    refine AW.reg0 ?_
    have q1q := J2 q3 @List.length_map.{0,0}
    iterate 3 refine S.one q1q ?_
    (refine S.sp q1q fun b a14 => ?_; cases b <;> (try exact nope a14))
    all_goals iterate 3 refine S.one q1q ?_
    all_goals have q2q := J2 q3 @List.length_map.{0,0}
    all_goals (first | (refine S.y rfl rfl rfl rfl fun Y Z => ?_; simp only [zz, simprocAttr, q2q]; (first | refine PCalls.eqto (rname_spec _ hv) ?_ | refine PCalls.eqto (rname_spec _ ht) ?_); refine S.bool fun b a18 => ?_; cases b <;> (try exact nope a18) <;> (refine Z _ _ ?_; clear Z Y)) | refine S.one trivial ?_)
    all_goals iterate 5 refine S.one q2q ?_
    all_goals have q3q := J2 q3 @List.length_map.{0,0}
    all_goals (first | (refine S.y rfl rfl rfl rfl fun Y Z => ?_; simp only [zz, simprocAttr, q3q]; (first | refine PCalls.eqto (rname_spec _ hv) ?_ | refine PCalls.eqto (rname_spec _ ht) ?_) <;> (refine Z _ _ ?_; clear Z Y)) | refine S.one trivial ?_)
    all_goals iterate 2 refine S.one q3q ?_
    all_goals refine S.nil ?_
    all_goals simp only [ze, simprocAttr, q3q]
    all_goals simp_all [leafBad]
   rintro s σ ⟨rfl, e1, l1, e26⟩
   refine AW.cond (b := leafBad n) e26 (fun hb => ?_) (fun hb => ?_)
   ·refine AW.sr trivial ?_
    refine AW.ret ?_
    simp only [zs, simprocAttr]
    all_goals ((try and_intros) <;> first | rfl | assumption | (simp [Nd.err_eq, ndOwn, hk, hb]))
   refine AW.skip ?_
   all_goals simp only [zs, simprocAttr]
   all_goals apply_assumption
   refine AW.seq_k fun K6 h6 => ?_
   all_goals refine AW.sr (J3 e1 l1 @List.length_map.{0,0}) ?_
   refine AW.cond (b := decide ((n.tests.length : Int) > 16)) (by simp [ev]) (fun hc => ?_) (fun hc => ?_)
   ·have hc : 16 < n.tests.length := by have := of_decide_eq_true hc; omega
    refine AW.sr trivial ?_
    refine AW.ret ?_
    simp only [zs, simprocAttr]
    all_goals ((try and_intros) <;> first | rfl | assumption | (simp [Nd.err_eq, ndOwn, hk, hb, cndsErr, hc]))
   have hc : ¬ 16 < n.tests.length := by have := of_decide_eq_false hc; omega
   refine AW.skip ?_
   all_goals simp only [zs, simprocAttr]
   all_goals apply_assumption
   all_goals refine AW.sr (J2 e1 l1) ?_
   refine AW.block ?_   -- 1
   refine AW.loop (fun m s σ => σ = Hp.empty ∧ ∃ i : Nat, m + i = n.tests.length ∧ s.t 3 = .c (.int .i64 (i : Nat)) ∧ s.t 1 = .lp 1 0 ∧ s.l 1 = some [.c (.int .i64 n.kind), .c (.string n.var), .c (.string n.type), .sl (n.tests.map encC), .sl (n.kids.map encNd)] ∧ cndsBad [] n.tests = cndsBad [] (n.tests.drop i)) n.tests.length ?_ ?_
   ·refine ⟨rfl, 0, by simp, ?_⟩
    simp only [zs, simprocAttr, e1, l1]
    all_goals ((try and_intros) <;> first | rfl | assumption | (simp))
   rintro m s σ ⟨rfl, i, hm, e3, e1, l1, hp⟩
   refine AW.seq_k fun K10 h10 => ?_
   all_goals refine AW.sr (J4 e3 e1 l1 @List.length_map.{0,0}) ?_
   refine AW.cond (b := decide (i < n.tests.length)) (by simp [ev]) (fun hi => ?_) (fun hi => ?_)
   ·have hi := of_decide_eq_true hi
    obtain ⟨c, hx, hcm, hg, hd⟩ := cnd_get hi
    have hw := wadd1 (a := i) (by omega)
    rw [hd, cndsBad_cons] at hp
    refine AW.skip ?_
    simp only [zs, simprocAttr]
    all_goals apply_assumption
    refine AW.seq_k fun K12 h12 => ?_
    refine AW.block ?_   -- 2
    refine AW.seq_k fun K13 h13 => ?_
    refine AW.reg0 ?_
    iterate 5 refine S.one (J7 e3 e1 l1 hi hg @cd @List.length_map.{0,0}) ?_
    have q4q := J7 e3 e1 l1 hi hg @cd @List.length_map.{0,0}
    (refine S.g rfl rfl fun Y Z => ?_; simp only [zz, simprocAttr, q4q]; refine PCalls.eqto (rCond_spec c [] (hts c hcm) (by decide)) ?_ <;> (refine Z _ _ ?_; clear Z Y))
    all_goals refine S.one q4q ?_
    all_goals (refine S.nil ?_; simp only [ze, simprocAttr, q4q]; apply_assumption)
    all_goals refine AW.sr trivial ?_
    refine AW.cond (b := cndBad [] c) (by cases h : cndBad [] c <;> simp [ev]) (fun hb2 => ?_) (fun hb2 => ?_)
    ·refine AW.sr trivial ?_
     refine AW.ret ?_
     simp only [zs, simprocAttr]
     all_goals ((try and_intros) <;> first | rfl | assumption | (simp [Nd.err_eq, ndOwn, hk, hb, cndsErr, hc, hp, hb2]))
    ·refine AW.skip ?_
     simp only [zs, simprocAttr]
     all_goals apply_assumption
     rw [hb2, Bool.false_or] at hp
     have q5q := J4 e3 hw e1 l1
     refine AW.reg0 (S.rn q5q ?_)
     simp only [ze, simprocAttr, q5q]
     refine ⟨m - 1, by omega, i + 1, by omega, ?_⟩
     all_goals ((try and_intros) <;> first | rfl | assumption | (exact hp))
   ·have hi := of_decide_eq_false hi
    refine AW.exit ?_
    simp only [zs, simprocAttr]
    rw [List.drop_of_length_le (by omega)] at hp
    have hp : cndsBad [] n.tests = false := hp
    all_goals ((try and_intros) <;> first | rfl | assumption | (simp [ndOwn, hk, hb, cndsErr, hc, hp]))
  ·have hk : ¬ n.kind = 1 := by simpa using hk
   refine AW.seq_j (fun s' σ' => σ' = Hp.empty ∧ s'.t 1 = .lp 1 0 ∧ s'.l 1 = some [.c (.int .i64 n.kind), .c (.string n.var), .c (.string n.type), .sl (n.tests.map encC), .sl (n.kids.map encNd)] ∧ s'.t 47 = .c (.bool (decide (n.kind = 2 ∨ n.kind = 3 ∨ n.kind = 4)))) ?_ ?_
   ·refine AW.sr trivial ?_
    refine AW.cond (b := n.kind == 2) (by simp [ev]) (fun h2 => ?_) (fun h2 => ?_)
    ·refine AW.skip ?_
     simp only [zs, simprocAttr]
     all_goals ((try and_intros) <;> first | rfl | assumption | (simp_all))
    all_goals refine AW.sr trivial ?_
    refine AW.cond (b := n.kind == 3) (by simp [ev]) (fun h3 => ?_) (fun h3 => ?_)
    ·refine AW.skip ?_
     simp only [zs, simprocAttr]
     all_goals ((try and_intros) <;> first | rfl | assumption | (simp_all))
    all_goals refine AW.reg0 (S.rn trivial ?_)
    all_goals simp only [ze, simprocAttr]
    all_goals simp_all
    all_goals (rw [Bool.eq_iff_iff]; simp)
   rintro s σ ⟨rfl, e1, l1, e47⟩
   refine AW.cond (b := decide (n.kind = 2 ∨ n.kind = 3 ∨ n.kind = 4)) e47 (fun h4 => ?_) (fun h4 => ?_)
   ·have h4 := of_decide_eq_true h4
    refine AW.seq_j (fun s' σ' => σ' = Hp.empty ∧ s'.t 1 = .lp 1 0 ∧ s'.l 1 = some [.c (.int .i64 n.kind), .c (.string n.var), .c (.string n.type), .sl (n.tests.map encC), .sl (n.kids.map encNd)] ∧ s'.t 70 = .c (.bool (joinBad n))) ?_ ?_
    ·skip
     refine AW.reg0 ?_
     have q6q := J5 e1 l1 q1 q2 @List.length_map.{0,0}
     iterate 3 refine S.one q6q ?_
     (refine S.sp q6q fun b a54 => ?_; cases b <;> (try exact nope a54))
     all_goals iterate 3 refine S.one q6q ?_
     all_goals (first | (refine S.sp q6q fun b a58 => ?_; cases b <;> (try exact nope a58)) | refine S.one trivial ?_)
     all_goals iterate 4 refine S.one q6q ?_
     all_goals (first | (refine S.sp q6q fun b a63 => ?_; cases b <;> (try exact nope a63)) | refine S.one trivial ?_)
     all_goals iterate 7 refine S.one q6q ?_
     all_goals refine S.nil ?_
     all_goals simp only [ze, simprocAttr, q6q]
     all_goals simp_all [joinBad]
     all_goals omega
    rintro s σ ⟨rfl, e1, l1, e70⟩
    refine AW.cond (b := joinBad n) e70 (fun hb => ?_) (fun hb => ?_)
    ·refine AW.sr trivial ?_
     refine AW.ret ?_
     simp only [zs, simprocAttr]
     all_goals ((try and_intros) <;> first | rfl | assumption | (simp [Nd.err_eq, ndOwn, hk, hb, h4]))
    ·refine AW.skip ?_
     simp only [zs, simprocAttr]
     all_goals ((try and_intros) <;> first | rfl | assumption | (simp [ndOwn, hk, hb, h4]))
   ·have h4 := of_decide_eq_false h4
    refine AW.sr trivial ?_
    refine AW.ret ?_
    simp only [zs, simprocAttr]
    all_goals ((try and_intros) <;> first | rfl | assumption | (simp [Nd.err_eq, ndOwn, hk, h4]))
 rintro s σ ⟨rfl, e1, l1, h0⟩
 have he : n.err = firstErr (n.kids.map Nd.err) := by rw [Nd.err_eq, if_pos h0]
 refine AW.seq_k fun K20 h20 => ?_
 all_goals refine AW.sr (J2 e1 l1) ?_
 refine AW.block ?_   -- 3
 refine AW.loop (fun m s σ => σ = Hp.empty ∧ ∃ i : Nat, m + i = n.kids.length ∧ s.t 5 = .c (.int .i64 (i : Nat)) ∧ s.t 1 = .lp 1 0 ∧ s.l 1 = some [.c (.int .i64 n.kind), .c (.string n.var), .c (.string n.type), .sl (n.tests.map encC), .sl (n.kids.map encNd)] ∧ n.err = firstErr ((n.kids.drop i).map Nd.err)) n.kids.length ?_ ?_
 ·refine ⟨rfl, 0, by simp, ?_⟩
  simp only [zs, simprocAttr, e1, l1]
  all_goals ((try and_intros) <;> first | rfl | assumption | (simpa using he))
 rintro m s σ ⟨rfl, i, hm, e5, e1, l1, hp⟩
 refine AW.seq_k fun K22 h22 => ?_
 all_goals refine AW.sr (J4 e5 e1 l1 @List.length_map.{0,0}) ?_
 refine AW.cond (b := decide (i < n.kids.length)) (by simp [ev]) (fun hi => ?_) (fun hi => ?_)
 ·have hi := of_decide_eq_true hi
  obtain ⟨x, hx, hxm, hg⟩ := kid_get hi
  have hd : n.kids.drop i = x :: n.kids.drop (i + 1) := by
   rw [List.drop_eq_getElem_cons hi]; congr 1; rw [List.getElem?_eq_getElem hi] at hx; exact Option.some.inj hx
  have hw := wadd1 (a := i) (by omega)
  rw [hd, List.map_cons, firstErr] at hp
  refine AW.skip ?_
  simp only [zs, simprocAttr]
  all_goals apply_assumption
  refine AW.seq_k fun K24 h24 => ?_
  refine AW.block ?_   -- 4
  refine AW.seq_k fun K25 h25 => ?_
  refine AW.reg0 ?_
  iterate 5 refine S.one (J7 e5 e1 l1 hi hg @nd @List.length_map.{0,0}) ?_
  have q7q := J7 e5 e1 l1 hi hg @nd @List.length_map.{0,0}
  (refine S.g rfl rfl fun Y Z => ?_; simp only [zz, simprocAttr, q7q]; refine PCalls.eqto (ih x hxm (hn.kid hxm) (ho.kid hxm)) ?_ <;> (refine Z _ _ ?_; clear Z Y))
  all_goals refine S.one q7q ?_
  all_goals (refine S.nil ?_; simp only [ze, simprocAttr, q7q]; apply_assumption)
  all_goals refine AW.sr trivial ?_
  refine AW.cond (b := x.err != 0) (by simp [ev]) (fun hb => ?_) (fun hb => ?_)
  ·refine AW.sr trivial ?_
   refine AW.ret ?_
   simp only [zs, simprocAttr]
   all_goals ((try and_intros) <;> first | rfl | assumption | (simp_all))
  ·refine AW.skip ?_
   simp only [zs, simprocAttr]
   all_goals apply_assumption
   have hb : x.err = 0 := by simpa using hb
   rw [if_pos hb] at hp
   have q8q := J4 e5 hw e1 l1
   refine AW.reg0 (S.rn q8q ?_)
   simp only [ze, simprocAttr, q8q]
   refine ⟨m - 1, by omega, i + 1, by omega, ?_⟩
   all_goals ((try and_intros) <;> first | rfl | assumption | (exact hp))
 ·have hi := of_decide_eq_false hi
  refine AW.exit ?_
  simp only [zs, simprocAttr]
  all_goals apply_assumption
  rw [List.drop_of_length_le (by omega)] at hp
  have hp : n.err = 0 := hp
  refine AW.sr trivial ?_
  refine AW.ret ?_
  simp only [zs, simprocAttr]
  all_goals ((try and_intros) <;> first | rfl | assumption | (rw [hp]))
def Nd.shape (n : Nd) : Int := if (decide (8 < n.deep) || decide (12 < n.terms)) = true then 72 else if n.err = 0 then (if 64 < n.alts then 72 else 0) else n.err
theorem Shape_spec (n : Nd) (hn : n.small) (ho : n.ok) : PCalls Tryz.prog 35 [.agg (encNd n)] (fun v => v = .c (.int .i64 n.shape)) := by
 have h1 : (((n.deep : Nat) : Int) > 8) = (8 < n.deep) := by rw [eq_iff_iff]; omega
 have h2 : (((n.terms : Nat) : Int) > 12) = (12 < n.terms) := by rw [eq_iff_iff]; omega
 have h3 : (((n.alts : Nat) : Int) > 64) = (64 < n.alts) := by rw [eq_iff_iff]; omega
 refine PCalls.intro Tryz.call35 Tryz.func35 rfl Tryz.ntmps35 Tryz.results35 (by simp) ?_
 refine AW.sr @nd ?_
 refine AW.seq_k fun K2 h2 => ?_
 refine AW.seq_j (fun s' σ' => σ' = Hp.empty ∧ s'.t 1 = .lp 1 0 ∧ s'.l 1 = some (encNd n) ∧ s'.t 11 = .c (.bool (decide (8 < n.deep) || decide (12 < n.terms)))) ?_ ?_
 ·skip
  refine AW.reg0 ?_
  refine S.one (J3 @nd h1 h2) ?_
  (refine S.g rfl rfl fun Y Z => ?_; simp only [zz, simprocAttr, nd, h1, h2]; refine PCalls.eqto (deep_spec n hn) ?_ <;> (refine Z _ _ ?_; clear Z Y))
  all_goals (refine S.sp (J3 @nd h1 h2) fun b a6 => ?_; cases b <;> (try exact nope a6))
  all_goals iterate 2 refine S.one (J3 @nd h1 h2) ?_
  all_goals (first | (refine S.y rfl rfl rfl rfl fun Y Z => ?_; simp only [zz, simprocAttr, nd, h1, h2]; refine PCalls.eqto (terms_spec n hn) ?_ <;> (refine Z _ _ ?_; clear Z Y)) | refine S.one trivial ?_)
  all_goals iterate 2 refine S.one (J3 @nd h1 h2) ?_
  all_goals refine S.nil ?_
  all_goals simp only [ze, simprocAttr, nd, h1, h2]
  all_goals simp_all
  all_goals omega
 rintro s σ ⟨rfl, e1, l1, e11⟩
 refine AW.cond (b := decide (8 < n.deep) || decide (12 < n.terms)) e11 (fun hb => ?_) (fun hb => ?_)
 ·refine AW.sr trivial ?_
  refine AW.ret ?_
  simp only [zs, simprocAttr]
  all_goals ((try and_intros) <;> first | rfl | assumption | (simp [Nd.shape, hb]))
 have hs : n.shape = if n.err = 0 then (if 64 < n.alts then 72 else 0) else n.err := by rw [Nd.shape, if_neg (by rw [hb]; exact Bool.false_ne_true)]
 refine AW.skip ?_
 all_goals simp only [zs, simprocAttr]
 all_goals apply_assumption
 refine AW.seq_k fun K4 h4 => ?_
 refine AW.seq_k fun K5 h5 => ?_
 all_goals refine AW.reg0 ?_
 all_goals refine S.one (J3 e1 l1 @nd) ?_
 all_goals (refine S.g rfl rfl fun Y Z => ?_; simp only [zz, simprocAttr, e1, l1, nd]; refine PCalls.eqto (node_spec n hn ho) ?_ <;> (refine Z _ _ ?_; clear Z Y))
 all_goals refine S.one (J3 e1 l1 @nd) ?_
 all_goals (refine S.nil ?_; simp only [ze, simprocAttr, e1, l1, nd]; apply_assumption)
 all_goals refine AW.sr trivial ?_
 refine AW.cond (b := n.err != 0) (by simp [ev]) (fun hc => ?_) (fun hc => ?_)
 ·refine AW.sr trivial ?_
  refine AW.ret ?_
  simp only [zs, simprocAttr]
  all_goals ((try and_intros) <;> first | rfl | assumption | ((rw [hs, if_neg (by simpa using hc)])))
 have hc : n.err = 0 := by simpa using hc
 refine AW.skip ?_
 all_goals simp only [zs, simprocAttr]
 all_goals apply_assumption
 refine AW.seq_k fun K8 h8 => ?_
 refine AW.seq_k fun K9 h9 => ?_
 all_goals refine AW.reg0 ?_
 all_goals refine S.one (J4 e1 l1 @nd h3) ?_
 all_goals have q1q := J4 e1 l1 @nd h3
 all_goals (refine S.g rfl rfl fun Y Z => ?_; simp only [zz, simprocAttr, q1q]; refine PCalls.eqto (alts_spec n ⟨hn.len, hn⟩) ?_ <;> (refine Z _ _ ?_; clear Z Y))
 all_goals refine S.one q1q ?_
 all_goals (refine S.nil ?_; simp only [ze, simprocAttr, q1q]; apply_assumption)
 refine AW.cond (b := decide (64 < n.alts)) (by simp [ev]) (fun hd => ?_) (fun hd => ?_)
 ·refine AW.sr trivial ?_
  refine AW.ret ?_
  simp only [zs, simprocAttr]
  all_goals ((try and_intros) <;> first | rfl | assumption | ((rw [hs, if_pos hc]; simp_all)))
 ·refine AW.skip ?_
  simp only [zs, simprocAttr]
  all_goals apply_assumption
  refine AW.sr trivial ?_
  refine AW.ret ?_
  simp only [zs, simprocAttr]
  all_goals ((try and_intros) <;> first | rfl | assumption | ((rw [hs, if_pos hc]; simp_all)))
theorem rShape_spec (n : Nd) (hn : n.small) (ho : n.ok) : PCalls Tryz.prog 39 [.agg (encNd n)] (fun v => v = .c (.int .i64 n.shape)) := by
 have h1 : (((n.deep : Nat) : Int) > 8) = (8 < n.deep) := by rw [eq_iff_iff]; omega
 have h2 : (((n.terms : Nat) : Int) > 12) = (12 < n.terms) := by rw [eq_iff_iff]; omega
 have h3 : (((n.alts : Nat) : Int) > 64) = (64 < n.alts) := by rw [eq_iff_iff]; omega
 refine PCalls.intro Tryz.call39 Tryz.func39 rfl Tryz.ntmps39 Tryz.results39 (by simp) ?_
 refine AW.sr @nd ?_
 refine AW.seq_k fun K2 h2 => ?_
 refine AW.seq_j (fun s' σ' => σ' = Hp.empty ∧ s'.t 1 = .lp 1 0 ∧ s'.l 1 = some (encNd n) ∧ s'.t 11 = .c (.bool (decide (8 < n.deep) || decide (12 < n.terms)))) ?_ ?_
 ·skip
  refine AW.reg0 ?_
  refine S.one (J3 @nd h1 h2) ?_
  (refine S.g rfl rfl fun Y Z => ?_; simp only [zz, simprocAttr, nd, h1, h2]; refine PCalls.eqto (rdeep_spec n hn) ?_ <;> (refine Z _ _ ?_; clear Z Y))
  all_goals (refine S.sp (J3 @nd h1 h2) fun b a6 => ?_; cases b <;> (try exact nope a6))
  all_goals iterate 2 refine S.one (J3 @nd h1 h2) ?_
  all_goals (first | (refine S.y rfl rfl rfl rfl fun Y Z => ?_; simp only [zz, simprocAttr, nd, h1, h2]; refine PCalls.eqto (rterms_spec n hn) ?_ <;> (refine Z _ _ ?_; clear Z Y)) | refine S.one trivial ?_)
  all_goals iterate 2 refine S.one (J3 @nd h1 h2) ?_
  all_goals refine S.nil ?_
  all_goals simp only [ze, simprocAttr, nd, h1, h2]
  all_goals simp_all
  all_goals omega
 rintro s σ ⟨rfl, e1, l1, e11⟩
 refine AW.cond (b := decide (8 < n.deep) || decide (12 < n.terms)) e11 (fun hb => ?_) (fun hb => ?_)
 ·refine AW.sr trivial ?_
  refine AW.ret ?_
  simp only [zs, simprocAttr]
  all_goals ((try and_intros) <;> first | rfl | assumption | (simp [Nd.shape, hb]))
 have hs : n.shape = if n.err = 0 then (if 64 < n.alts then 72 else 0) else n.err := by rw [Nd.shape, if_neg (by rw [hb]; exact Bool.false_ne_true)]
 refine AW.skip ?_
 all_goals simp only [zs, simprocAttr]
 all_goals apply_assumption
 refine AW.seq_k fun K4 h4 => ?_
 refine AW.seq_k fun K5 h5 => ?_
 all_goals refine AW.reg0 ?_
 all_goals refine S.one (J3 e1 l1 @nd) ?_
 all_goals (refine S.g rfl rfl fun Y Z => ?_; simp only [zz, simprocAttr, e1, l1, nd]; refine PCalls.eqto (rnode_spec n hn ho) ?_ <;> (refine Z _ _ ?_; clear Z Y))
 all_goals refine S.one (J3 e1 l1 @nd) ?_
 all_goals (refine S.nil ?_; simp only [ze, simprocAttr, e1, l1, nd]; apply_assumption)
 all_goals refine AW.sr trivial ?_
 refine AW.cond (b := n.err != 0) (by simp [ev]) (fun hc => ?_) (fun hc => ?_)
 ·refine AW.sr trivial ?_
  refine AW.ret ?_
  simp only [zs, simprocAttr]
  all_goals ((try and_intros) <;> first | rfl | assumption | ((rw [hs, if_neg (by simpa using hc)])))
 have hc : n.err = 0 := by simpa using hc
 refine AW.skip ?_
 all_goals simp only [zs, simprocAttr]
 all_goals apply_assumption
 refine AW.seq_k fun K8 h8 => ?_
 refine AW.seq_k fun K9 h9 => ?_
 all_goals refine AW.reg0 ?_
 all_goals refine S.one (J4 e1 l1 @nd h3) ?_
 all_goals have q1q := J4 e1 l1 @nd h3
 all_goals (refine S.g rfl rfl fun Y Z => ?_; simp only [zz, simprocAttr, q1q]; refine PCalls.eqto (ralts_spec n hn) ?_ <;> (refine Z _ _ ?_; clear Z Y))
 all_goals refine S.one q1q ?_
 all_goals (refine S.nil ?_; simp only [ze, simprocAttr, q1q]; apply_assumption)
 refine AW.cond (b := decide (64 < n.alts)) (by simp [ev]) (fun hd => ?_) (fun hd => ?_)
 ·refine AW.sr trivial ?_
  refine AW.ret ?_
  simp only [zs, simprocAttr]
  all_goals ((try and_intros) <;> first | rfl | assumption | ((rw [hs, if_pos hc]; simp_all)))
 ·refine AW.skip ?_
  simp only [zs, simprocAttr]
  all_goals apply_assumption
  refine AW.sr trivial ?_
  refine AW.ret ?_
  simp only [zs, simprocAttr]
  all_goals ((try and_intros) <;> first | rfl | assumption | ((rw [hs, if_pos hc]; simp_all)))
def ltS (a b : ByteArray) : Bool := Op.bytesLess a.toList b.toList
def putS (l : List ByteArray) (s : ByteArray) : List ByteArray := if hasS l s then l else l.takeWhile (ltS · s) ++ s :: l.dropWhile (ltS · s)
theorem len_str (l : List ByteArray) : ∀ (e : List V), e ∈ l.map encS → e.length = 1 := fun e he => by
 obtain ⟨a, _, rfl⟩ := List.mem_map.1 he; rfl
theorem take_cons {l : List ByteArray} {i : Nat} {x : ByteArray} (h : l[i]? = some x) (r : List ByteArray) : l.take i ++ x :: r = l.take (i + 1) ++ r := by
 rw [List.take_add_one, h, List.append_assoc]; rfl
theorem rput_spec (l : List ByteArray) (str : ByteArray) (hl : l.length < 1048576) : PCalls Tryz.prog 107 [.sl (l.map encS), .c (.string str)] (fun v => v = .sl ((putS l str).map encS)) := by
 refine PCalls.intro Tryz.call107 Tryz.func107 rfl Tryz.ntmps107 Tryz.results107 (by simp) ?_
 refine AW.sr trivial ?_
 refine AW.seq_k fun K2 h2 => ?_
 refine AW.seq_k fun K3 h3 => ?_
 refine AW.reg0 ?_
 iterate 2 refine S.one trivial ?_
 (refine S.g rfl rfl fun Y Z => ?_; simp only [zz, simprocAttr]; refine PCalls.eqto (rhasS_spec _ _ (by omega)) ?_ <;> (refine Z _ _ ?_; clear Z Y))
 (refine S.nil ?_; simp only [ze, simprocAttr]; apply_assumption)
 refine AW.cond (b := hasS l str) (by simp [ev]) (fun hb => ?_) (fun hb => ?_)
 ·refine AW.sr trivial ?_
  refine AW.ret ?_
  simp only [zs, simprocAttr]
  all_goals ((try and_intros) <;> first | rfl | assumption | (simp [putS, hb]))
 refine AW.skip ?_
 simp only [zs, simprocAttr]
 all_goals apply_assumption
 refine AW.sr trivial ?_
 refine AW.seq_j (fun s' σ' => σ' = Hp.empty ∧ s'.t 0 = .sl (l.map encS) ∧ s'.t 1 = .c (.string str) ∧ ∃ i : Nat, i ≤ l.length ∧ s'.t 5 = .c (.int .i64 (i : Nat)) ∧ l.takeWhile (ltS · str) = l.take i ∧ l.dropWhile (ltS · str) = l.drop i) ?_ ?_
 ·refine AW.block ?_   -- 0
  refine AW.loop (fun m s σ => σ = Hp.empty ∧ ∃ i : Nat, m + i = l.length ∧ s.t 0 = .sl (l.map encS) ∧ s.t 1 = .c (.string str) ∧ s.t 5 = .c (.int .i64 (i : Nat)) ∧ l.takeWhile (ltS · str) = l.take i ++ (l.drop i).takeWhile (ltS · str) ∧ l.dropWhile (ltS · str) = (l.drop i).dropWhile (ltS · str)) l.length ?_ ?_
  ·refine ⟨rfl, 0, by simp, ?_⟩
   simp only [zs, simprocAttr]
   all_goals ((try and_intros) <;> first | rfl | assumption | (simp))
  rintro m s σ ⟨rfl, i, hm, e0, e1, e5, hp, hq⟩
  refine AW.seq_k fun K6 h6 => ?_
  refine AW.seq_j (fun s' σ' => σ' = Hp.empty ∧ s'.t 0 = .sl (l.map encS) ∧ s'.t 1 = .c (.string str) ∧ s'.t 5 = .c (.int .i64 (i : Nat)) ∧ s'.t 22 = .c (.bool (decide (i < l.length) && (l[i]?.map (ltS · str)).getD false))) ?_ ?_
  ·by_cases hi : i < l.length
   ·obtain ⟨x, hx, hg, hd⟩ := str_get hi
    refine AW.reg0 ?_
    have q1q := J6 e0 e1 e5 hi hg @List.length_map.{0,0}
    iterate 3 refine S.one q1q ?_
    (refine S.sp q1q fun b a14 => ?_; cases b <;> (try exact nope a14))
    iterate 8 refine S.one q1q ?_
    refine S.nil ?_
    simp only [ze, simprocAttr, q1q]
    simp_all [ltS]
   ·have hx : l[i]? = none := List.getElem?_eq_none (by omega)
    refine AW.reg0 ?_
    have q2q := J5 e0 e1 e5 hi @List.length_map.{0,0}
    iterate 3 refine S.one q2q ?_
    (refine S.sp q2q fun b a14 => ?_; cases b <;> (try exact nope a14))
    iterate 8 refine S.one q2q ?_
    refine S.nil ?_
    simp only [ze, simprocAttr, q2q]
    simp_all
  rintro s σ ⟨rfl, e0, e1, e5, e22⟩
  refine AW.cond (b := decide (i < l.length) && (l[i]?.map (ltS · str)).getD false) e22 (fun hc => ?_) (fun hc => ?_)
  ·rw [Bool.and_eq_true, decide_eq_true_eq] at hc
   obtain ⟨hi, hc⟩ := hc
   obtain ⟨x, hx, hg, hd⟩ := str_get hi
   have hw := wadd1 (a := i) (by omega)
   rw [hx] at hc
   have hc : ltS x str = true := hc
   refine AW.skip ?_
   simp only [zs, simprocAttr]
   all_goals apply_assumption
   refine AW.block ?_   -- 1
   have q3q := J4 e5 hw e0 e1
   refine AW.reg0 (S.rn q3q ?_)
   simp only [ze, simprocAttr, q3q]
   refine ⟨m - 1, by omega, i + 1, by omega, ?_⟩
   rw [hd, List.takeWhile_cons_of_pos (p := (ltS · str)) hc, take_cons hx] at hp
   rw [hd, List.dropWhile_cons_of_pos (p := (ltS · str)) hc] at hq
   all_goals ((try and_intros) <;> first | rfl | assumption | (exact ⟨hp, hq⟩))
  ·refine AW.exit ?_
   simp only [zs, simprocAttr]
   refine ⟨e0, e1, i, by omega, e5, ?_⟩
   by_cases hi : i < l.length
   ·obtain ⟨x, hx, hg, hd⟩ := str_get hi
    rw [hx] at hc
    have hc : ltS x str = false := by simpa [hi] using hc
    rw [hd, List.takeWhile_cons_of_neg (p := (ltS · str)) (by rw [hc]; exact Bool.false_ne_true), List.append_nil] at hp
    rw [hd, List.dropWhile_cons_of_neg (p := (ltS · str)) (by rw [hc]; exact Bool.false_ne_true)] at hq
    exact ⟨hp, by rw [hq, hd]⟩
   ·rw [List.drop_of_length_le (by omega)] at hp hq
    rw [List.drop_of_length_le (by omega)]
    exact ⟨by simpa using hp, hq⟩
 rintro s σ ⟨rfl, e0, e1, i, hi, e5, h1, h2⟩
 refine AW.sr trivial ?_
 refine AW.seq_k fun K8 h8 => ?_
 have hT : (l.map encS).take i = (l.take i).map encS := List.map_take.symm
 have hD : (l.map encS).drop i = (l.drop i).map encS := List.map_drop.symm
 have hTl : (l.take i).length = i := by rw [List.length_take]; omega
 have hDl : (l.drop i).length = l.length - i := List.length_drop
 have z1 : (∀ (e : List V), e ∈ l.map encS → e.length = 1) = True := eq_true (len_str l)
 have z2 : (∀ (e : List V), e ∈ (l.take i).map encS → e.length = 1) = True := eq_true (len_str _)
 have z3 : (∀ (e : List V), e ∈ (l.drop i).map encS → e.length = 1) = True := eq_true (len_str _)
 have z4 : (∀ (e : List V), e ∈ [[V.c (.string str)]] → e.length = 1) = True := eq_true (len_str [str])
 have y1 : (i ≤ maxLen) = True := eq_true (by unfold maxLen; omega)
 have y2 : (i * 16 ≤ reach) = True := eq_true (by unfold reach; omega)
 have y3 : (i + 1 ≤ maxLen) = True := eq_true (by unfold maxLen; omega)
 have y4 : ((i + 1) * 16 ≤ reach) = True := eq_true (by unfold reach; omega)
 have y5 : (i + 1 + (l.length - i) ≤ maxLen) = True := eq_true (by unfold maxLen; omega)
 have y6 : ((i + 1 + (l.length - i)) * 16 ≤ reach) = True := eq_true (by unfold reach; omega)
 refine AW.reg0 ?_
 iterate 4 refine S.one (J12 e0 e1 e5 hi hT hD hTl hDl z1 z2 z3 (J12 z4 y1 y2 y3 y4 y5 y6 @List.length_map.{0,0} @Int.le_refl @Int.toNat_zero @Nat.sub_zero @List.drop_zero.{0})) ?_
 (refine S.g rfl rfl fun Y Z => ?_; simp only [zz, simprocAttr, tt, e0, e1, e5, hi, hT, hD, hTl, hDl, z1, z2, z3, z4, y1, y2, y3, y4, y5, y6, List.length_map, Int.le_refl, Int.toNat_zero, Nat.sub_zero, List.drop_zero]; intro k1 hk1 <;> (refine Z _ _ ?_; clear Z Y))
 iterate 2 (refine S.g rfl rfl fun Y Z => ?_; simp only [zb, simprocAttr, e0, e1, e5, hi, hT, hD, hTl, hDl, z1, z2, z3, z4, y1, y2, y3, y4, y5, y6, List.length_map, Int.le_refl, Int.toNat_zero, Nat.sub_zero, List.drop_zero, Nat.reduceLT, Nat.reduceLeDiff, reduceCtorEq, Nat.reduceMul, tt]; refine Z _ _ ?_; clear Z Y)
 have q4q := J12 e0 e1 e5 hi hT hD hTl hDl z1 z2 z3 (J12 z4 y1 y2 y3 y4 y5 y6 @List.length_map.{0,0} @Int.le_refl @Int.toNat_zero @Nat.sub_zero @List.drop_zero.{0})
 (refine S.g rfl rfl fun Y Z => ?_; simp only [zz, simprocAttr, tt, q4q]; intro k2 hk2 <;> (refine Z _ _ ?_; clear Z Y))
 refine S.one q4q ?_
 (refine S.nil ?_; simp only [ze, simprocAttr, q4q]; apply_assumption)
 have hD2 : ((l.drop i).map encS).take (l.length - i) = (l.drop i).map encS := List.take_of_length_le (by rw [List.length_map, hDl]; omega)
 refine AW.seq_k fun K9 h9 => ?_
 refine AW.reg0 ?_
 iterate 4 refine S.one (J12 e0 e1 e5 hi hT hD hTl hDl hD2 z1 z2 (J10 z3 z4 y5 y6 @List.length_append.{0} @List.length_map.{0,0} @Int.le_refl @Int.toNat_zero @Nat.sub_zero @List.drop_zero.{0})) ?_
 have q5q := J12 e0 e1 e5 hi hT hD hTl hDl hD2 z1 z2 (J10 z3 z4 y5 y6 @List.length_append.{0} @List.length_map.{0,0} @Int.le_refl @Int.toNat_zero @Nat.sub_zero @List.drop_zero.{0})
 (refine S.g rfl rfl fun Y Z => ?_; simp only [zz, simprocAttr, tt, q5q]; intro k3 hk3 <;> (refine Z _ _ ?_; clear Z Y))
 refine S.one q5q ?_
 (refine S.nil ?_; simp only [ze, simprocAttr, q5q]; apply_assumption)
 refine AW.freeze (k := k3) (T := (9, 1)) (es := (putS l str).map encS) (by simp only [Hp.setGr_gr, if_true, putS, hb, h1, h2]; simp [encS]) (AW.bare (AW.ret ?_))
 simp only [zs, simprocAttr, fzV, fz1, St.fz_t, St.fz_l]
def putAll (acc kv : List ByteArray) : List ByteArray := kv.foldl putS acc
theorem take_drop_while {p : ByteArray → Bool} (l : List ByteArray) : (l.takeWhile p).length + (l.dropWhile p).length = l.length := by
 rw [← List.length_append, List.takeWhile_append_dropWhile]
theorem putS_len (l : List ByteArray) (s : ByteArray) : (putS l s).length ≤ l.length + 1 := by
 unfold putS
 split
 ·omega
 ·have := take_drop_while (p := (ltS · s)) l
  rw [List.length_append, List.length_cons]; omega
theorem putAll_len (kv : List ByteArray) : ∀ acc : List ByteArray, (putAll acc kv).length ≤ acc.length + kv.length := by
 induction kv with
 | nil => intro acc; exact Nat.le_refl _
 | cons s kv ih => intro acc; have h1 := ih (putS acc s); have h2 := putS_len acc s; simp only [putAll, List.foldl_cons, List.length_cons] at *; omega
def varsOf (n : Nd) (l : List (List ByteArray)) : List ByteArray := l.foldl putAll (if n.var.size = 0 then [] else putS [] n.var)
def Nd.vars (n : Nd) : List ByteArray := n.para varsOf
theorem Nd.vars_eq (n : Nd) : n.vars = varsOf n (n.kids.map Nd.vars) := Nd.para_eq _ n
theorem foldAll_len (l : List (List ByteArray)) : ∀ acc : List ByteArray, (l.foldl putAll acc).length ≤ acc.length + (l.map List.length).sum := by
 induction l with
 | nil => intro acc; exact Nat.le_refl _
 | cons s l ih => intro acc; have h1 := ih (putAll acc s); have h2 := putAll_len s acc; simp only [List.foldl_cons, List.map_cons, List.sum_cons] at *; omega
def Nd.v0 (n : Nd) : List ByteArray := if n.var.size = 0 then [] else putS [] n.var
theorem Nd.v0_len (n : Nd) : n.v0.length ≤ 1 := by
 unfold Nd.v0
 split
 ·exact Nat.zero_le _
 ·have := putS_len [] n.var; simpa using this
theorem Nd.vars_size : ∀ n : Nd, n.vars.length ≤ n.size := Nd.ind fun n ih => by
 rw [Nd.vars_eq, Nd.size_eq]
 have h1 := foldAll_len (n.kids.map Nd.vars) n.v0
 have h2 := n.v0_len
 rw [List.map_map] at h1
 have h3 := sum_le (f := List.length ∘ Nd.vars) (g := Nd.size) (ks := n.kids) ih
 unfold varsOf
 unfold Nd.v0 at *
 omega
def Nd.vfst (n : Nd) (i : Nat) : List ByteArray := ((n.kids.take i).map Nd.vars).foldl putAll n.v0
theorem Nd.vfst_size (n : Nd) (i : Nat) {x : Nd} (hx : n.kids[i]? = some x) : (n.vfst i).length + x.vars.length ≤ n.size := by
 have h1 := foldAll_len ((n.kids.take i).map Nd.vars) n.v0
 have h2 := n.v0_len
 rw [List.map_map] at h1
 have h3 := sum_le (f := List.length ∘ Nd.vars) (g := Nd.size) (ks := n.kids.take i) (fun y _ => y.vars_size)
 have h4 := sum_step (l := n.kids.map Nd.size) (i := i) (x := x.size) (by rw [List.getElem?_map, hx]; rfl)
 have h5 := sum_take (n.kids.map Nd.size) (i + 1)
 have h6 := n.size_eq
 have h7 := x.vars_size
 simp only [← List.map_take] at h4 h5
 unfold Nd.vfst
 omega
theorem Nd.vfst_step (n : Nd) (i : Nat) {x : Nd} (hx : n.kids[i]? = some x) : n.vfst (i + 1) = putAll (n.vfst i) x.vars := by
 unfold Nd.vfst
 rw [List.map_take, List.map_take, fold_step (x := x.vars) (by rw [List.getElem?_map, hx]; rfl)]
theorem putAll_step {A kv : List ByteArray} {j : Nat} {s : ByteArray} (h : kv[j]? = some s) : putAll A (kv.take (j + 1)) = putS (putAll A (kv.take j)) s := fold_step h
def SlN (l : List ByteArray) (v : V) : Prop := v = .sl (l.map encS) ∨ (v = .c (.slice none 0 0) ∧ l = [])
theorem rVars_spec : ∀ n : Nd, n.small → PCalls Tryz.prog 73 [.agg (encNd n)] (fun v => v = .sl (n.vars.map encS)) := Nd.ind fun n ih hn => by
 have hl := hn.len
 have hn' : n.size ≤ 1048576 := hn
 rw [encNd_eq]
 refine PCalls.intro Tryz.call73 Tryz.func73 rfl Tryz.ntmps73 Tryz.results73 (by simp) ?_
 refine AW.sr trivial ?_
 refine AW.sr trivial ?_
 refine AW.seq_j (fun s' σ' => σ' = Hp.empty ∧ s'.t 1 = .lp 1 0 ∧ s'.l 1 = some [.c (.int .i64 n.kind), .c (.string n.var), .c (.string n.type), .sl (n.tests.map encC), .sl (n.kids.map encNd)] ∧ SlN (n.vfst 0) (s'.t 3)) ?_ ?_
 ·refine AW.sr trivial ?_
  refine AW.cond (b := !decide (n.var.size = 0)) (by simp [ev]) (fun hb => ?_) (fun hb => ?_)
  ·have hb : ¬ n.var.size = 0 := by simpa using hb
   have hnil : ([] : List ByteArray).length < 1048576 := by decide
   refine AW.reg0 ?_
   iterate 3 refine S.one trivial ?_
   (refine S.g rfl rfl fun Y Z => ?_; simp only [zz, simprocAttr]; (first | refine PCalls.eqto (rput_spec _ _ (by omega)) ?_ | refine PCalls.eqto (rput_spec [] _ (by decide)) ?_) <;> (refine Z _ _ ?_; clear Z Y))
   refine S.one trivial ?_
   refine S.nil ?_
   simp only [ze, simprocAttr]
   all_goals ((try and_intros) <;> first | rfl | assumption | (exact .inl (by simp [Nd.vfst, Nd.v0, hb])))
  ·have hb : n.var.size = 0 := by simpa using hb
   refine AW.skip ?_
   simp only [zs, simprocAttr]
   all_goals ((try and_intros) <;> first | rfl | assumption | (exact .inr ⟨rfl, by simp [Nd.vfst, Nd.v0, hb]⟩))
 rintro s σ ⟨rfl, e1, l1, e3⟩
 refine AW.seq_k fun K4 h4 => ?_
 refine AW.sr (J2 e1 l1) ?_
 refine AW.block ?_   -- 0
 refine AW.loop (fun m s σ => σ = Hp.empty ∧ ∃ i : Nat, m + i = n.kids.length ∧ s.t 4 = .c (.int .i64 (i : Nat)) ∧ s.t 1 = .lp 1 0 ∧ s.l 1 = some [.c (.int .i64 n.kind), .c (.string n.var), .c (.string n.type), .sl (n.tests.map encC), .sl (n.kids.map encNd)] ∧ SlN (n.vfst i) (s.t 3)) n.kids.length ?_ ?_
 ·refine ⟨rfl, 0, by simp, ?_⟩
  simp only [zs, simprocAttr, e1, l1]
  all_goals ((try and_intros) <;> first | rfl | assumption | (exact e3))
 rintro m s σ ⟨rfl, i, hm, e4, e1, l1, e3⟩
 refine AW.seq_k fun K6 h6 => ?_
 refine AW.sr (J4 e4 e1 l1 @List.length_map.{0,0}) ?_
 refine AW.cond (b := decide (i < n.kids.length)) (by simp [ev]) (fun hi => ?_) (fun hi => ?_)
 ·have hi := of_decide_eq_true hi
  obtain ⟨x, hx, hxm, hg⟩ := kid_get hi
  have hw := wadd1 (a := i) (by omega)
  have hsz := n.vfst_size i hx
  refine AW.skip ?_
  simp only [zs, simprocAttr]
  all_goals apply_assumption
  refine AW.seq_k fun K8 h8 => ?_
  refine AW.block ?_   -- 1
  refine AW.seq_k fun K9 h9 => ?_
  refine AW.reg0 ?_
  iterate 5 refine S.one (J7 e4 e1 l1 hi hg @nd @List.length_map.{0,0}) ?_
  have q1q := J7 e4 e1 l1 hi hg @nd @List.length_map.{0,0}
  (refine S.g rfl rfl fun Y Z => ?_; simp only [zz, simprocAttr, q1q]; refine PCalls.eqto (ih x hxm (hn.kid hxm)) ?_ <;> (refine Z _ _ ?_; clear Z Y))
  refine S.one q1q ?_
  (refine S.nil ?_; simp only [ze, simprocAttr, q1q]; apply_assumption)
  refine AW.sr trivial ?_
  refine AW.block ?_   -- 2
  refine AW.loop (fun m2 s σ => σ = Hp.empty ∧ ∃ j : Nat, m2 + j = x.vars.length ∧ s.t 6 = .c (.int .i64 (j : Nat)) ∧ s.t 5 = .sl (x.vars.map encS) ∧ s.t 4 = .c (.int .i64 (i : Nat)) ∧ s.t 1 = .lp 1 0 ∧ s.l 1 = some [.c (.int .i64 n.kind), .c (.string n.var), .c (.string n.type), .sl (n.tests.map encC), .sl (n.kids.map encNd)] ∧ SlN (putAll (n.vfst i) (x.vars.take j)) (s.t 3)) x.vars.length ?_ ?_
  ·refine ⟨rfl, 0, by simp, ?_⟩
   simp only [zs, simprocAttr, e1, l1, e4]
   all_goals ((try and_intros) <;> first | rfl | assumption | (exact e3))
  rintro m2 s σ ⟨rfl, j, hm2, e6, e5, e4, e1, l1, e3⟩
  refine AW.seq_k fun K11 h11 => ?_
  refine AW.sr (J3 e6 e5 @List.length_map.{0,0}) ?_
  refine AW.cond (b := decide (j < x.vars.length)) (by simp [ev]) (fun hj => ?_) (fun hj => ?_)
  ·have hj := of_decide_eq_true hj
   obtain ⟨y, hy, hgy, hdy⟩ := str_get hj
   have hw2 := wadd1 (a := j) (by omega)
   have hst := putAll_step (A := n.vfst i) hy
   have hpl := putAll_len (x.vars.take j) (n.vfst i)
   rw [List.length_take] at hpl
   refine AW.skip ?_
   simp only [zs, simprocAttr]
   all_goals apply_assumption
   refine AW.seq_k fun K13 h13 => ?_
   refine AW.block ?_   -- 3
   rcases e3 with e3 | ⟨e3, e3n⟩
   ·skip
    refine AW.reg0 ?_
    iterate 5 refine S.one (J6 e3 e5 e6 hj hgy @List.length_map.{0,0}) ?_
    have q2q := J6 e3 e5 e6 hj hgy @List.length_map.{0,0}
    (refine S.g rfl rfl fun Y Z => ?_; simp only [zz, simprocAttr, q2q]; (first | refine PCalls.eqto (rput_spec _ _ (by omega)) ?_ | refine PCalls.eqto (rput_spec [] _ (by decide)) ?_) <;> (refine Z _ _ ?_; clear Z Y))
    refine S.one q2q ?_
    (refine S.nil ?_; simp only [ze, simprocAttr, q2q]; apply_assumption)
    have q3q := J6 e6 hw2 e5 e4 e1 l1
    refine AW.reg0 (S.rn q3q ?_)
    simp only [ze, simprocAttr, q3q]
    refine ⟨m2 - 1, by omega, j + 1, by omega, ?_⟩
    all_goals ((try and_intros) <;> first | rfl | assumption | (exact .inl (by rw [hst])))
   ·have hnil : ([] : List ByteArray).length < 1048576 := by decide
    refine AW.reg0 ?_
    iterate 5 refine S.one (J6 e3 e5 e6 hj hgy @List.length_map.{0,0}) ?_
    have q4q := J6 e3 e5 e6 hj hgy @List.length_map.{0,0}
    (refine S.g rfl rfl fun Y Z => ?_; simp only [zz, simprocAttr, q4q]; (first | refine PCalls.eqto (rput_spec _ _ (by omega)) ?_ | refine PCalls.eqto (rput_spec [] _ (by decide)) ?_) <;> (refine Z _ _ ?_; clear Z Y))
    refine S.one q4q ?_
    (refine S.nil ?_; simp only [ze, simprocAttr, q4q]; apply_assumption)
    have q5q := J6 e6 hw2 e5 e4 e1 l1
    refine AW.reg0 (S.rn q5q ?_)
    simp only [ze, simprocAttr, q5q]
    refine ⟨m2 - 1, by omega, j + 1, by omega, ?_⟩
    all_goals ((try and_intros) <;> first | rfl | assumption | (exact .inl (by rw [hst, e3n])))
  ·have hj := of_decide_eq_false hj
   refine AW.exit ?_
   simp only [zs, simprocAttr]
   all_goals apply_assumption
   rw [List.take_of_length_le (by omega), ← n.vfst_step i hx] at e3
   have q6q := J4 e4 hw e1 l1
   refine AW.reg0 (S.rn q6q ?_)
   simp only [ze, simprocAttr, q6q]
   refine ⟨m - 1, by omega, i + 1, by omega, ?_⟩
   all_goals ((try and_intros) <;> first | rfl | assumption | (exact e3))
 ·have hi := of_decide_eq_false hi
  refine AW.exit ?_
  simp only [zs, simprocAttr]
  all_goals apply_assumption
  have hv : n.vfst i = n.vars := by rw [Nd.vfst, List.take_of_length_le (by omega), Nd.vars_eq]; rfl
  rw [hv] at e3
  rcases e3 with e3 | ⟨e3, e3n⟩
  ·refine AW.sr e3 ?_
   refine AW.ret ?_
   simp only [zs, simprocAttr]
   all_goals ((try and_intros) <;> first | rfl | assumption | (rfl))
  ·refine AW.sr e3 ?_
   refine AW.ret ?_
   simp only [zs, simprocAttr]
   all_goals ((try and_intros) <;> first | rfl | assumption | ((rw [e3n]; rfl)))
def meets (kv ov : List ByteArray) : Bool := ov.any (hasS kv)
def bindsFrom (k : Bool) : List (List ByteArray) → List (Int × List ByteArray) → Int
  | _, [] => 0
  | seen, (e, kv) :: r => if e = 0 then (if k && seen.any (meets kv) then 73 else bindsFrom k (seen ++ [kv]) r) else e
def twin (n : Nd) : Bool := decide (n.kind = 2 ∨ n.kind = 3)
def Nd.binds (n : Nd) : Int := n.para fun n l => bindsFrom (twin n) [] (l.zip (n.kids.map Nd.vars))
def bindOf (x : Nd) : Int × List ByteArray := (x.binds, x.vars)
theorem Nd.binds_eq (n : Nd) : n.binds = bindsFrom (twin n) [] (n.kids.map bindOf) := by
 rw [Nd.binds, Nd.para_eq]
 congr 1
 have : ∀ ks : List Nd, (ks.map (fun x => Nd.para (fun n l => bindsFrom (twin n) [] (l.zip (n.kids.map Nd.vars))) x)).zip (ks.map Nd.vars) = ks.map bindOf := fun ks => by
  induction ks with
  | nil => rfl
  | cons x xs ih => rw [List.map_cons, List.map_cons, List.zip_cons_cons, ih]; rfl
 exact this _
theorem kid_drop {n : Nd} {i : Nat} {x : Nd} (hx : n.kids[i]? = some x) : n.kids.drop i = x :: n.kids.drop (i + 1) := by
 obtain ⟨hi, h⟩ := List.getElem?_eq_some_iff.1 hx
 rw [List.drop_eq_getElem_cons hi, h]
theorem any_step {α : Type} {p : α → Bool} {l : List α} {i : Nat} {x : α} (h : l[i]? = some x) : (l.take (i + 1)).any p = ((l.take i).any p || p x) := by
 rw [List.take_add_one, h, List.any_append]; simp
theorem any_mem {α : Type} {p : α → Bool} {l : List α} {i : Nat} {x : α} (h : l[i]? = some x) (hp : p x = true) : l.any p = true :=
 List.any_eq_true.2 ⟨x, List.mem_of_getElem? h, hp⟩
theorem rBinds_spec : ∀ n : Nd, n.small → PCalls Tryz.prog 40 [.agg (encNd n)] (fun v => v = .c (.int .i64 n.binds)) := Nd.ind fun n ih hn => by
  have hl := hn.len
  rw [encNd_eq]
  refine PCalls.intro Tryz.call40 Tryz.func40 rfl Tryz.ntmps40 Tryz.results40 (by simp) ?_
  refine AW.sr trivial ?_
  refine AW.seq_k fun K2 h2 => ?_
  refine AW.sr trivial ?_
  refine AW.block ?_   -- 0
  refine AW.loop (fun m s σ => σ = Hp.empty ∧ ∃ i : Nat, m + i = n.kids.length ∧ s.t 3 = .c (.int .i64 (i : Nat)) ∧ s.t 1 = .lp 1 0 ∧ s.l 1 = some [.c (.int .i64 n.kind), .c (.string n.var), .c (.string n.type), .sl (n.tests.map encC), .sl (n.kids.map encNd)] ∧ n.binds = bindsFrom (twin n) ((n.kids.take i).map Nd.vars) ((n.kids.drop i).map bindOf)) n.kids.length ?_ ?_
  · refine ⟨rfl, 0, by simp, ?_⟩
    simp only [zs, simprocAttr]
    all_goals ((try and_intros) <;> first | rfl | assumption | (exact n.binds_eq))
  rintro m s σ ⟨rfl, i, hm, e3, e1, l1, hp⟩
  refine AW.seq_k fun K4 h4 => ?_
  all_goals refine AW.sr (J4 e3 e1 l1 @List.length_map.{0,0}) ?_
  refine AW.cond (b := decide (i < n.kids.length)) (by simp [ev]) (fun hi => ?_) (fun hi => ?_)
  · have hi := of_decide_eq_true hi
    obtain ⟨x, hx, hxm, hg⟩ := kid_get hi
    have hw := wadd1 (a := i) (by omega)
    have hxs := x.vars_size
    have hxn : x.size ≤ 1048576 := hn.kid hxm
    rw [kid_drop hx, List.map_cons, bindOf, bindsFrom] at hp
    refine AW.skip ?_
    simp only [zs, simprocAttr]
    all_goals apply_assumption
    refine AW.seq_k fun K6 h6 => ?_
    refine AW.block ?_   -- 1
    refine AW.seq_k fun K7 h7 => ?_
    refine AW.seq_k fun K8 h8 => ?_
    refine AW.reg0 ?_
    iterate 5 refine S.one (J7 e3 e1 l1 hi hg @nd @List.length_map.{0,0}) ?_
    have q1q := J7 e3 e1 l1 hi hg @nd @List.length_map.{0,0}
    (refine S.g rfl rfl fun Y Z => ?_; simp only [zz, simprocAttr, q1q]; refine PCalls.eqto (ih x hxm (hn.kid hxm)) ?_ <;> (refine Z _ _ ?_; clear Z Y))
    all_goals refine S.one q1q ?_
    all_goals (refine S.nil ?_; simp only [ze, simprocAttr, q1q]; apply_assumption)
    all_goals refine AW.sr trivial ?_
    refine AW.cond (b := x.binds != 0) (by simp [ev]) (fun hb => ?_) (fun hb => ?_)
    · have hb : ¬ x.binds = 0 := by simpa using hb
      refine AW.sr trivial ?_
      refine AW.ret ?_
      simp only [zs, simprocAttr]
      all_goals ((try and_intros) <;> first | rfl | assumption | (rw [hp, if_neg hb]))
    have hb : x.binds = 0 := by simpa using hb
    rw [if_pos hb] at hp
    refine AW.skip ?_
    all_goals simp only [zs, simprocAttr]
    all_goals apply_assumption
    refine AW.seq_k fun K11 h11 => ?_
    all_goals refine AW.reg0 ?_
    all_goals iterate 5 refine S.one (J7 e3 e1 l1 hi hg @nd @List.length_map.{0,0}) ?_
    all_goals have q2q := J7 e3 e1 l1 hi hg @nd @List.length_map.{0,0}
    all_goals (refine S.g rfl rfl fun Y Z => ?_; simp only [zz, simprocAttr, q2q]; (first | refine PCalls.eqto (rVars_spec x (hn.kid hxm)) ?_ | refine PCalls.eqto (rVars_spec y (hn.kid hym)) ?_) <;> (refine Z _ _ ?_; clear Z Y))
    all_goals refine S.one q2q ?_
    all_goals (refine S.nil ?_; simp only [ze, simprocAttr, q2q]; apply_assumption)
    all_goals refine AW.sr trivial ?_
    refine AW.block ?_   -- 2
    refine AW.loop (fun m2 s σ => σ = Hp.empty ∧ ∃ j : Nat, m2 + j = i ∧ s.t 6 = .c (.int .i64 (j : Nat)) ∧ s.t 5 = .sl (x.vars.map encS) ∧ s.t 3 = .c (.int .i64 (i : Nat)) ∧ s.t 1 = .lp 1 0 ∧ s.l 1 = some [.c (.int .i64 n.kind), .c (.string n.var), .c (.string n.type), .sl (n.tests.map encC), .sl (n.kids.map encNd)] ∧ (twin n && ((n.kids.take j).map Nd.vars).any (meets x.vars)) = false) i ?_ ?_
    · refine ⟨rfl, 0, by simp, ?_⟩
      simp only [zs, simprocAttr, e1, l1, e3]
      all_goals ((try and_intros) <;> first | rfl | assumption | (simp))
    rintro m2 s σ ⟨rfl, j, hm2, e6, e5, e3, e1, l1, hq⟩
    refine AW.seq_k fun K13 h13 => ?_
    refine AW.seq_j (fun s' σ' => σ' = Hp.empty ∧ s'.t 6 = .c (.int .i64 (j : Nat)) ∧ s'.t 5 = .sl (x.vars.map encS) ∧ s'.t 3 = .c (.int .i64 (i : Nat)) ∧ s'.t 1 = .lp 1 0 ∧ s'.l 1 = some [.c (.int .i64 n.kind), .c (.string n.var), .c (.string n.type), .sl (n.tests.map encC), .sl (n.kids.map encNd)] ∧ s'.t 43 = .c (.bool (decide (j < i) && twin n))) ?_ ?_
    · skip
      refine AW.reg0 ?_
      have q3q := J5 e6 e5 e3 e1 l1
      iterate 2 refine S.one q3q ?_
      (refine S.sp q3q fun b a33 => ?_; cases b <;> (try exact nope a33))
      all_goals iterate 3 refine S.one q3q ?_
      all_goals (first | (refine S.sp q3q fun b a37 => ?_; cases b <;> (try exact nope a37)) | refine S.one trivial ?_)
      all_goals iterate 6 refine S.one q3q ?_
      all_goals refine S.nil ?_
      all_goals simp only [ze, simprocAttr, q3q]
      all_goals simp_all [twin]
      all_goals first | (rw [Bool.eq_iff_iff]; simp; done) | (intro hh; exfalso; omega)
    rintro s σ ⟨rfl, e6, e5, e3, e1, l1, e43⟩
    refine AW.cond (b := decide (j < i) && twin n) e43 (fun hj => ?_) (fun hj => ?_)
    · rw [Bool.and_eq_true, decide_eq_true_eq] at hj
      obtain ⟨hj, htw⟩ := hj
      have hjl : j < n.kids.length := by omega
      obtain ⟨y, hy, hym, hgy⟩ := kid_get hjl
      have hys := y.vars_size
      have hyn : y.size ≤ 1048576 := hn.kid hym
      have hw2 := wadd1 (a := j) (by omega)
      have hyv : (n.kids.map Nd.vars)[j]? = some y.vars := by rw [List.getElem?_map, hy]; rfl
      rw [htw, Bool.true_and] at hq
      refine AW.skip ?_
      simp only [zs, simprocAttr]
      all_goals apply_assumption
      refine AW.seq_k fun K14 h14 => ?_
      refine AW.block ?_   -- 3
      refine AW.seq_k fun K15 h15 => ?_
      refine AW.reg0 ?_
      iterate 5 refine S.one (J7 e6 e1 l1 hjl hgy @nd @List.length_map.{0,0}) ?_
      have q4q := J7 e6 e1 l1 hjl hgy @nd @List.length_map.{0,0}
      (refine S.g rfl rfl fun Y Z => ?_; simp only [zz, simprocAttr, q4q]; (first | refine PCalls.eqto (rVars_spec x (hn.kid hxm)) ?_ | refine PCalls.eqto (rVars_spec y (hn.kid hym)) ?_) <;> (refine Z _ _ ?_; clear Z Y))
      all_goals refine S.one q4q ?_
      all_goals (refine S.nil ?_; simp only [ze, simprocAttr, q4q]; apply_assumption)
      all_goals refine AW.sr trivial ?_
      refine AW.block ?_   -- 4
      refine AW.loop (fun m3 s σ => σ = Hp.empty ∧ ∃ k : Nat, m3 + k = y.vars.length ∧ s.t 8 = .c (.int .i64 (k : Nat)) ∧ s.t 7 = .sl (y.vars.map encS) ∧ s.t 6 = .c (.int .i64 (j : Nat)) ∧ s.t 5 = .sl (x.vars.map encS) ∧ s.t 3 = .c (.int .i64 (i : Nat)) ∧ s.t 1 = .lp 1 0 ∧ s.l 1 = some [.c (.int .i64 n.kind), .c (.string n.var), .c (.string n.type), .sl (n.tests.map encC), .sl (n.kids.map encNd)] ∧ (y.vars.take k).any (hasS x.vars) = false) y.vars.length ?_ ?_
      · refine ⟨rfl, 0, by simp, ?_⟩
        simp only [zs, simprocAttr, e1, l1, e3, e5, e6]
        all_goals ((try and_intros) <;> first | rfl | assumption | (rfl))
      rintro m3 s σ ⟨rfl, k, hm3, e8, e7, e6, e5, e3, e1, l1, hr⟩
      refine AW.seq_k fun K17 h17 => ?_
      all_goals refine AW.sr (J3 e8 e7 @List.length_map.{0,0}) ?_
      refine AW.cond (b := decide (k < y.vars.length)) (by simp [ev]) (fun hk => ?_) (fun hk => ?_)
      · have hk := of_decide_eq_true hk
        obtain ⟨z, hz, hgz, hdz⟩ := str_get hk
        have hw3 := wadd1 (a := k) (by omega)
        have hst := any_step (p := hasS x.vars) hz
        refine AW.skip ?_
        simp only [zs, simprocAttr]
        all_goals apply_assumption
        refine AW.seq_k fun K19 h19 => ?_
        refine AW.block ?_   -- 5
        refine AW.seq_k fun K20 h20 => ?_
        refine AW.reg0 ?_
        iterate 5 refine S.one (J6 e5 e7 e8 hk hgz @List.length_map.{0,0}) ?_
        have q5q := J6 e5 e7 e8 hk hgz @List.length_map.{0,0}
        (refine S.g rfl rfl fun Y Z => ?_; simp only [zz, simprocAttr, q5q]; refine PCalls.eqto (rhasS_spec _ _ (by omega)) ?_ <;> (refine Z _ _ ?_; clear Z Y))
        all_goals (refine S.nil ?_; simp only [ze, simprocAttr, q5q]; apply_assumption)
        refine AW.cond (b := hasS x.vars z) (by simp [ev]) (fun hc => ?_) (fun hc => ?_)
        · refine AW.sr trivial ?_
          refine AW.ret ?_
          simp only [zs, simprocAttr]
          have hmt : meets x.vars y.vars = true := any_mem hz hc
          have hin : ((n.kids.take i).map Nd.vars)[j]? = some y.vars := by rw [List.map_take, List.getElem?_take_of_lt hj, hyv]
          have han : ((n.kids.take i).map Nd.vars).any (meets x.vars) = true := any_mem hin hmt
          all_goals ((try and_intros) <;> first | rfl | assumption | (rw [hp, htw, han]; rfl))
        · refine AW.skip ?_
          simp only [zs, simprocAttr]
          all_goals apply_assumption
          have q6q := J8 e8 hw3 e7 e6 e5 e3 e1 l1
          refine AW.reg0 (S.rn q6q ?_)
          simp only [ze, simprocAttr, q6q]
          refine ⟨m3 - 1, by omega, k + 1, by omega, ?_⟩
          all_goals ((try and_intros) <;> first | rfl | assumption | (rw [hst, hr, hc]; rfl))
      · have hk := of_decide_eq_false hk
        refine AW.exit ?_
        simp only [zs, simprocAttr]
        all_goals apply_assumption
        rw [List.take_of_length_le (by omega)] at hr
        have hst := any_step (p := meets x.vars) hyv
        have q7q := J6 e6 hw2 e5 e3 e1 l1
        refine AW.reg0 (S.rn q7q ?_)
        simp only [ze, simprocAttr, q7q]
        refine ⟨m2 - 1, by omega, j + 1, by omega, ?_⟩
        rw [← List.map_take, ← List.map_take, hq] at hst
        all_goals ((try and_intros) <;> first | rfl | assumption | ((rw [htw, hst]; exact hr)))
    · refine AW.exit ?_
      simp only [zs, simprocAttr]
      all_goals apply_assumption
      have hov : (twin n && ((n.kids.take i).map Nd.vars).any (meets x.vars)) = false := by
        cases ht : twin n with
        | false => rfl
        | true =>
          rw [ht] at hq hj
          have : ¬ j < i := by simpa using hj
          have : j = i := by omega
          rw [this] at hq; exact hq
      rw [hov, if_neg Bool.false_ne_true] at hp
      have htk : (n.kids.take (i + 1)).map Nd.vars = (n.kids.take i).map Nd.vars ++ [x.vars] := by rw [List.take_add_one, hx, List.map_append]; rfl
      have q8q := J4 e3 hw e1 l1
      refine AW.reg0 (S.rn q8q ?_)
      simp only [ze, simprocAttr, q8q]
      refine ⟨m - 1, by omega, i + 1, by omega, ?_⟩
      all_goals ((try and_intros) <;> first | rfl | assumption | ((rw [htk]; exact hp)))
  · have hi := of_decide_eq_false hi
    refine AW.exit ?_
    simp only [zs, simprocAttr]
    all_goals apply_assumption
    rw [List.drop_of_length_le (l := n.kids) (by omega)] at hp
    have hp : n.binds = 0 := hp
    refine AW.sr trivial ?_
    refine AW.ret ?_
    simp only [zs, simprocAttr]
    all_goals ((try and_intros) <;> first | rfl | assumption | (rw [hp]))
structure Pat where
  name : ByteArray
  within : Int
  node : Nd
  conds : List Cnd
def encPat (p : Pat) : List V := [.c (.string p.name), .c (.int .i64 p.within), .c (.int .i64 p.node.kind), .c (.string p.node.var), .c (.string p.node.type), .sl (p.node.tests.map encC), .sl (p.node.kids.map encNd), .sl (p.conds.map encC)]
structure okPat (p : Pat) : Prop where
  name : p.name.size < 4611686018427387904
  small : p.node.small
  ok : p.node.ok
  len : p.conds.length < 4611686018427387904
  conds : ∀ c ∈ p.conds, okC c
def patOwn (p : Pat) : Bool := !isName p.name || decide (p.within < 1) || decide (p.within > 1099511627776)
def patErr (p : Pat) : Int := if patOwn p then 70 else if p.node.shape = 0 then (if p.node.binds = 0 then cndsErr p.node.vars p.conds else p.node.binds) else p.node.shape
theorem rPattern_spec (p : Pat) (hp : okPat p) : PCalls Tryz.prog 45 [.agg (encPat p)] (fun v => v = .c (.int .i64 (patErr p))) := by
 have hE := (encNd_eq p.node).symm
 have hsz := p.node.vars_size
 have hsm : p.node.size ≤ 1048576 := hp.small
 refine PCalls.intro Tryz.call45 Tryz.func45 rfl Tryz.ntmps45 Tryz.results45 (by simp) ?_
 refine AW.sr @encPat.eq_1 ?_
 refine AW.seq_k fun K2 h2 => ?_
 refine AW.seq_j (fun s' σ' => σ' = Hp.empty ∧ s'.t 1 = .lp 1 0 ∧ s'.l 1 = some (encPat p) ∧ s'.t 21 = .c (.bool (patOwn p))) ?_ ?_
 ·skip
  refine AW.reg0 ?_
  iterate 2 refine S.one trivial ?_
  (refine S.g rfl rfl fun Y Z => ?_; simp only [zz, simprocAttr]; refine PCalls.eqto (rname_spec _ hp.name) ?_; refine S.bool fun b a10 => ?_; cases b <;> (try exact nope a10) <;> (refine Z _ _ ?_; clear Z Y))
  all_goals iterate 4 refine S.one trivial ?_
  all_goals (first | (refine S.sp trivial fun b a15 => ?_; cases b <;> (try exact nope a15)) | refine S.one trivial ?_)
  all_goals iterate 6 refine S.one trivial ?_
  all_goals refine S.nil ?_
  all_goals simp only [ze, simprocAttr]
  all_goals simp_all [patOwn, encPat]
  all_goals omega
 rintro s σ ⟨rfl, e1, l1, e21⟩
 refine AW.cond (b := patOwn p) e21 (fun hb => ?_) (fun hb => ?_)
 ·refine AW.sr trivial ?_
  refine AW.ret ?_
  simp only [zs, simprocAttr]
  all_goals ((try and_intros) <;> first | rfl | assumption | (rw [patErr, if_pos hb]))
 have hs : patErr p = if p.node.shape = 0 then (if p.node.binds = 0 then cndsErr p.node.vars p.conds else p.node.binds) else p.node.shape := by rw [patErr, if_neg (by rw [hb]; exact Bool.false_ne_true)]
 refine AW.skip ?_
 all_goals simp only [zs, simprocAttr]
 all_goals apply_assumption
 refine AW.seq_k fun K4 h4 => ?_
 refine AW.seq_k fun K5 h5 => ?_
 all_goals refine AW.reg0 ?_
 all_goals iterate 2 refine S.one (J5 e1 l1 @encPat.eq_1 hE @nd) ?_
 all_goals have q1q := J5 e1 l1 @encPat.eq_1 hE @nd
 all_goals (refine S.g rfl rfl fun Y Z => ?_; simp only [zz, simprocAttr, q1q]; refine PCalls.eqto (rShape_spec _ hp.small hp.ok) ?_ <;> (refine Z _ _ ?_; clear Z Y))
 all_goals refine S.one q1q ?_
 all_goals (refine S.nil ?_; simp only [ze, simprocAttr, q1q]; apply_assumption)
 all_goals refine AW.sr trivial ?_
 refine AW.cond (b := p.node.shape != 0) (by simp [ev]) (fun hc => ?_) (fun hc => ?_)
 ·refine AW.sr trivial ?_
  refine AW.ret ?_
  simp only [zs, simprocAttr]
  all_goals ((try and_intros) <;> first | rfl | assumption | ((rw [hs, if_neg (by simpa using hc)])))
 have hc : p.node.shape = 0 := by simpa using hc
 rw [if_pos hc] at hs
 refine AW.skip ?_
 all_goals simp only [zs, simprocAttr]
 all_goals apply_assumption
 refine AW.seq_k fun K8 h8 => ?_
 refine AW.seq_k fun K9 h9 => ?_
 all_goals refine AW.reg0 ?_
 all_goals iterate 2 refine S.one (J5 e1 l1 @encPat.eq_1 hE @nd) ?_
 all_goals have q2q := J5 e1 l1 @encPat.eq_1 hE @nd
 all_goals (refine S.g rfl rfl fun Y Z => ?_; simp only [zz, simprocAttr, q2q]; refine PCalls.eqto (rBinds_spec _ hp.small) ?_ <;> (refine Z _ _ ?_; clear Z Y))
 all_goals refine S.one q2q ?_
 all_goals (refine S.nil ?_; simp only [ze, simprocAttr, q2q]; apply_assumption)
 all_goals refine AW.sr trivial ?_
 refine AW.cond (b := p.node.binds != 0) (by simp [ev]) (fun hc => ?_) (fun hc => ?_)
 ·refine AW.sr trivial ?_
  refine AW.ret ?_
  simp only [zs, simprocAttr]
  all_goals ((try and_intros) <;> first | rfl | assumption | ((rw [hs, if_neg (by simpa using hc)])))
 have hc : p.node.binds = 0 := by simpa using hc
 rw [if_pos hc] at hs
 refine AW.skip ?_
 all_goals simp only [zs, simprocAttr]
 all_goals apply_assumption
 refine AW.seq_k fun K12 h12 => ?_
 all_goals refine AW.sr (J4 e1 l1 @encPat.eq_1 @List.length_map.{0,0}) ?_
 refine AW.cond (b := decide ((p.conds.length : Int) > 16)) (by simp [ev]) (fun hc => ?_) (fun hc => ?_)
 ·have hc : 16 < p.conds.length := by have := of_decide_eq_true hc; omega
  refine AW.sr trivial ?_
  refine AW.ret ?_
  simp only [zs, simprocAttr]
  all_goals ((try and_intros) <;> first | rfl | assumption | ((rw [hs]; simp [cndsErr, hc])))
 have hc16 : ¬ 16 < p.conds.length := by have := of_decide_eq_false hc; omega
 refine AW.skip ?_
 all_goals simp only [zs, simprocAttr]
 all_goals apply_assumption
 refine AW.seq_k fun K15 h15 => ?_
 all_goals refine AW.reg0 ?_
 all_goals iterate 2 refine S.one (J5 e1 l1 @encPat.eq_1 hE @nd) ?_
 all_goals have q3q := J5 e1 l1 @encPat.eq_1 hE @nd
 all_goals (refine S.g rfl rfl fun Y Z => ?_; simp only [zz, simprocAttr, q3q]; refine PCalls.eqto (rVars_spec _ hp.small) ?_ <;> (refine Z _ _ ?_; clear Z Y))
 all_goals refine S.one q3q ?_
 all_goals (refine S.nil ?_; simp only [ze, simprocAttr, q3q]; apply_assumption)
 refine AW.seq_k fun K16 h16 => ?_
 all_goals refine AW.sr (J2 e1 l1) ?_
 refine AW.block ?_   -- 0
 refine AW.loop (fun m s σ => σ = Hp.empty ∧ ∃ i : Nat, m + i = p.conds.length ∧ s.t 6 = .c (.int .i64 (i : Nat)) ∧ s.t 5 = .sl (p.node.vars.map encS) ∧ s.t 1 = .lp 1 0 ∧ s.l 1 = some (encPat p) ∧ cndsBad p.node.vars p.conds = cndsBad p.node.vars (p.conds.drop i)) p.conds.length ?_ ?_
 ·refine ⟨rfl, 0, by simp, ?_⟩
  simp only [zs, simprocAttr, e1, l1]
  all_goals ((try and_intros) <;> first | rfl | assumption | (rfl))
 rintro m s σ ⟨rfl, i, hm, e6, e5, e1, l1, hq⟩
 refine AW.seq_k fun K18 h18 => ?_
 all_goals refine AW.sr (J5 e6 e1 l1 @encPat.eq_1 @List.length_map.{0,0}) ?_
 refine AW.cond (b := decide (i < p.conds.length)) (by simp [ev]) (fun hi => ?_) (fun hi => ?_)
 ·have hi := of_decide_eq_true hi
  obtain ⟨c, hx, hcm, hg, hd⟩ := cnd_get hi
  have hw := wadd1 (a := i) (by omega)
  rw [hd, cndsBad_cons] at hq
  refine AW.skip ?_
  simp only [zs, simprocAttr]
  all_goals apply_assumption
  refine AW.seq_k fun K20 h20 => ?_
  refine AW.block ?_   -- 1
  refine AW.seq_k fun K21 h21 => ?_
  refine AW.reg0 ?_
  iterate 6 refine S.one (J9 e6 e5 e1 l1 hi hg @cd @encPat.eq_1 @List.length_map.{0,0}) ?_
  have q4q := J9 e6 e5 e1 l1 hi hg @cd @encPat.eq_1 @List.length_map.{0,0}
  (refine S.g rfl rfl fun Y Z => ?_; simp only [zz, simprocAttr, q4q]; refine PCalls.eqto (rCond_spec c p.node.vars (hp.conds c hcm) (by omega)) ?_ <;> (refine Z _ _ ?_; clear Z Y))
  all_goals refine S.one q4q ?_
  all_goals (refine S.nil ?_; simp only [ze, simprocAttr, q4q]; apply_assumption)
  all_goals refine AW.sr trivial ?_
  refine AW.cond (b := cndBad p.node.vars c) (by cases h : cndBad p.node.vars c <;> simp [ev]) (fun hb2 => ?_) (fun hb2 => ?_)
  ·refine AW.sr trivial ?_
   refine AW.ret ?_
   simp only [zs, simprocAttr]
   all_goals ((try and_intros) <;> first | rfl | assumption | ((rw [hs]; simp [cndsErr, hq, hb2])))
  ·refine AW.skip ?_
   simp only [zs, simprocAttr]
   all_goals apply_assumption
   rw [hb2, Bool.false_or] at hq
   have q5q := J5 e6 hw e5 e1 l1
   refine AW.reg0 (S.rn q5q ?_)
   simp only [ze, simprocAttr, q5q]
   refine ⟨m - 1, by omega, i + 1, by omega, ?_⟩
   all_goals ((try and_intros) <;> first | rfl | assumption | (exact hq))
 ·have hi := of_decide_eq_false hi
  refine AW.exit ?_
  simp only [zs, simprocAttr]
  all_goals apply_assumption
  rw [List.drop_of_length_le (by omega)] at hq
  have hq : cndsBad p.node.vars p.conds = false := hq
  refine AW.sr trivial ?_
  refine AW.ret ?_
  simp only [zs, simprocAttr]
  all_goals ((try and_intros) <;> first | rfl | assumption | ((rw [hs]; simp [cndsErr, hq, hc16])))
def eqEv (a b : Ev) : Bool := (a.src == b.src && a.seq == b.seq) && (a.time == b.time) && (a.type.toList == b.type.toList) && allEq eqAttr a.attrs b.attrs
def eqBd (a b : Bd) : Bool := (a.var.toList == b.var.toList) && eqEv a.ev b.ev
def cmpS (a b : ByteArray) : Int := if Op.bytesLess a.toList b.toList then -1 else if (Op.bytesLess a.toList b.toList || a.toList == b.toList) then 0 else 1
theorem isnan_spec (a : ByteArray) : PCalls Tryz.prog 167 [.c (.string a)] (fun v => v = .c (.bool false)) := by
 refine PCalls.intro Tryz.call167 Tryz.func167 rfl Tryz.ntmps167 Tryz.results167 (by simp) ?_
 all_goals refine AW.sr trivial ?_
 all_goals refine AW.sr trivial ?_
 refine AW.ret ?_
 all_goals simp only [zs, simprocAttr]
 all_goals simp
theorem compare_str (a b : ByteArray) : PCalls Tryz.prog 136 [.c (.string a), .c (.string b)] (fun v => v = .c (.int .i64 (cmpS a b))) := by
 refine PCalls.intro Tryz.call136 Tryz.func136 rfl Tryz.ntmps136 Tryz.results136 (by simp) ?_
 refine AW.sr trivial ?_
 refine AW.seq_k fun K2 h2 => ?_
 refine AW.reg0 ?_
 refine S.one trivial ?_
 (refine S.g rfl rfl fun Y Z => ?_; simp only [zz, simprocAttr, -Int.reduceNatCast', -Int.reduceToNat]; refine PCalls.eqto (isnan_spec _) ?_ <;> (refine Z _ _ ?_; clear Z Y))
 all_goals refine S.one trivial ?_
 all_goals (refine S.nil ?_; simp only [ze, simprocAttr]; apply_assumption)
 refine AW.seq_k fun K3 h3 => ?_
 all_goals refine AW.reg0 ?_
 all_goals refine S.one trivial ?_
 all_goals (refine S.g rfl rfl fun Y Z => ?_; simp only [zz, simprocAttr, -Int.reduceNatCast', -Int.reduceToNat]; refine PCalls.eqto (isnan_spec _) ?_ <;> (refine Z _ _ ?_; clear Z Y))
 all_goals refine S.one trivial ?_
 all_goals (refine S.nil ?_; simp only [ze, simprocAttr]; apply_assumption)
 refine AW.seq_k fun K4 h4 => ?_
 all_goals refine AW.sr trivial ?_
 refine AW.cond (b := false) (by simp [ev]) (fun hc => by cases hc) (fun hc => ?_)
 refine AW.skip ?_
 all_goals simp only [zs, simprocAttr]
 all_goals apply_assumption
 refine AW.seq_k fun K6 h6 => ?_
 all_goals refine AW.sr trivial ?_
 refine AW.cond (b := false) (by simp [ev]) (fun hc => by cases hc) (fun hc => ?_)
 refine AW.skip ?_
 all_goals simp only [zs, simprocAttr]
 all_goals apply_assumption
 refine AW.seq_k fun K8 h8 => ?_
 all_goals refine AW.sr trivial ?_
 refine AW.cond (b := Op.bytesLess a.toList b.toList) (by simp [ev]) (fun hc => ?_) (fun hc => ?_)
 ·refine AW.sr trivial ?_
  refine AW.ret ?_
  simp only [zs, simprocAttr]
  simp [cmpS, hc]
 ·refine AW.skip ?_
  simp only [zs, simprocAttr]
  all_goals apply_assumption
  refine AW.seq_k fun K11 h11 => ?_
  refine AW.sr trivial ?_
  refine AW.cond (b := !(Op.bytesLess a.toList b.toList || a.toList == b.toList)) (by simp [ev]) (fun hc2 => ?_) (fun hc2 => ?_)
  ·refine AW.sr trivial ?_
   refine AW.ret ?_
   simp only [zs, simprocAttr]
   rw [Bool.not_eq_true'] at hc2
   rw [cmpS, if_neg (by rw [hc]; simp), if_neg (by rw [hc2]; simp)]
  ·refine AW.skip ?_
   simp only [zs, simprocAttr]
   all_goals apply_assumption
   refine AW.sr trivial ?_
   refine AW.ret ?_
   simp only [zs, simprocAttr]
   rw [Bool.not_eq_false'] at hc2
   rw [cmpS, if_neg (by rw [hc]; simp), if_pos hc2]
theorem less_spec (a b : Bd) : PCalls Tryz.prog 141 [.agg (encBd a), .agg (encBd b)] (fun v => v = .c (.int .i64 (cmpS a.var b.var))) := by
 refine PCalls.intro Tryz.call141 Tryz.func141 rfl Tryz.ntmps141 Tryz.results141 (by simp) ?_
 refine AW.sr @encBd.eq_1 ?_
 refine AW.seq_k fun K2 h2 => ?_
 refine AW.reg0 ?_
 iterate 4 refine S.one trivial ?_
 (refine S.g rfl rfl fun Y Z => ?_; simp only [zz, simprocAttr, -Int.reduceNatCast', -Int.reduceToNat]; refine PCalls.eqto (compare_str _ _) ?_ <;> (refine Z _ _ ?_; clear Z Y))
 all_goals refine S.one trivial ?_
 all_goals (refine S.nil ?_; simp only [ze, simprocAttr]; apply_assumption)
 refine AW.ret ?_
 all_goals simp only [zs, simprocAttr]
theorem grow_spec (n : Nat) (hn : n * 80 ≤ 140737488355328) : ACalls Tryz.prog 170 [.c (.slice none 0 0), .c (.int .i64 n)] Hp.empty (fun v σ' => (v = .c (.slice none 0 0) ∧ σ' = Hp.empty ∧ n = 0) ∨ ∃ k, v = .gl k ∧ σ' = Hp.empty.setGr k (some ((50, 6), []))) := by
 refine ACalls.introR Tryz.call170 Tryz.func170 rfl Tryz.ntmps170 Tryz.results170 (by simp) ?_
 refine AW.sr trivial ?_
 refine AW.seq_k fun K2 h2 => ?_
 refine AW.sr trivial ?_
 refine AW.cond (b := decide ((n : Int) < 0)) (by simp [ev]) (fun hc => ?_) (fun hc => ?_)
 ·have := of_decide_eq_true hc; omega
 refine AW.skip ?_
 all_goals simp only [zs, simprocAttr]
 all_goals apply_assumption
 have hw : IntKind.i64.wrap ((n : Int) - 0) = (n : Int) := by rw [wrap_small _ (by omega) (by omega)]; omega
 have hw0 : IntKind.i64.wrap (0 - ((0 : Nat) : Int)) = 0 := by rw [wrap_small _ (by omega) (by omega)]; rfl
 refine AW.seq_k fun K4 h4 => ?_
 all_goals refine AW.sr (J2 hw hw0) ?_
 all_goals refine AW.sr trivial ?_
 refine AW.cond (b := decide ((n : Int) > 0)) (by simp [ev]) (fun hc => ?_) (fun hc => ?_)
 ·have hn0 : 0 < n := by have := of_decide_eq_true hc; omega
  refine AW.reg0 ?_
  iterate 5 refine S.one trivial ?_
  (refine S.g rfl rfl fun Y Z => ?_; simp only [zz, simprocAttr, -Int.reduceNatCast', -Int.reduceToNat, tt, (Tryz.underlying3), TypeDesc.int.injEq]; (first | refine ⟨by omega, by unfold maxLen; omega, by unfold reach; omega, fun k1 hk1 => ?_⟩ | refine ⟨rfl, by omega, by unfold maxLen; omega, by unfold reach; omega, fun k1 hk1 => ?_⟩) <;> (refine Z _ _ ?_; clear Z Y))
  all_goals iterate 2 refine S.one trivial ?_
  all_goals (refine S.g rfl rfl fun Y Z => ?_; simp only [zz, simprocAttr, -Int.reduceNatCast', -Int.reduceToNat, tt]; (first | refine ⟨Nat.zero_le _, fun k2 hk2 => ?_⟩ | refine fun k2 hk2 => ?_) <;> (refine Z _ _ ?_; clear Z Y))
  all_goals refine S.one trivial ?_
  all_goals (refine S.nil ?_; simp only [ze, simprocAttr]; apply_assumption)
  all_goals refine AW.sr trivial ?_
  refine AW.ret ?_
  all_goals simp only [zs, simprocAttr]
  exact .inr ⟨k2, rfl, rfl⟩
 ·have hn0 : n = 0 := by have := of_decide_eq_false hc; omega
  refine AW.skip ?_
  simp only [zs, simprocAttr]
  all_goals apply_assumption
  refine AW.sr trivial ?_
  refine AW.ret ?_
  simp only [zs, simprocAttr]
  exact .inl hn0
set_option maxRecDepth 100000
set_option maxHeartbeats 1000000
theorem bytealg_cmp (a b : ByteArray) (w : World) :
  Calls Tryz.prog 197 #[.string a, .string b] w fun e w' => e = .returned (.int .i64 (Lib.compareBytes a.data.toList b.data.toList)) ∧ w' = w := by
 go_enter Tryz.func197, Tryz.ntmps197
 go_wp2
 rw [run_callFunc_extern Tryz.func203 (by kernel_rfl) (by kernel_rfl) (by kernel_rfl) (e := Extern.BytealgCompare.compare) (by kernel_rfl), Lib.run_compareString]
 simp only [Result.andThen]
 rw [Oper.upon_value]
 go_wp2
 go_ret
 exact ⟨rfl, rfl⟩
theorem strings_cmp (a b : ByteArray) (w : World) :
  Calls Tryz.prog 178 #[.string a, .string b] w fun e w' => e = .returned (.int .i64 (Lib.compareBytes a.data.toList b.data.toList)) ∧ w' = w := by
 go_enter Tryz.func178, Tryz.ntmps178
 go_wp2_with (go_at_call 197; refine (bytealg_cmp _ _ _).mono ?_; rintro e w' ⟨rfl, rfl⟩)
 go_ret
 exact ⟨rfl, rfl⟩
theorem compareBytes_cmp : ∀ a b : List UInt8, Lib.compareBytes a b = if Op.bytesLess a b then -1 else if (Op.bytesLess a b || a == b) then 0 else 1
  | [], [] => rfl
  | [], _ :: _ => rfl
  | _ :: _, [] => rfl
  | a :: x, b :: y => by
    rw [Lib.compareBytes, Op.bytesLess]
    by_cases h1 : a < b
    · simp [h1]
    · by_cases h2 : b < a
      · have : ¬ a = b := fun e => by subst e; exact h1 h2
        simp [h1, h2, this]
      · have : a = b := by
          apply UInt8.toNat_inj.1
          rw [UInt8.lt_iff_toNat_lt] at h1 h2
          omega
        subst this
        rw [if_neg h1, if_neg h1, compareBytes_cmp x y]
        simp [h1]
theorem strcmp_spec (a b : ByteArray) : PCalls Tryz.prog 178 [.c (.string a), .c (.string b)] (fun v => v = .c (.int .i64 (cmpS a b))) := by
 have h := PCalls.ofSame (P := Tryz.prog) (f := 178) (vs := [.string a, .string b]) (r := .int .i64 (Lib.compareBytes a.data.toList b.data.toList)) Tryz.call178 (fun w => strings_cmp a b w)
 rw [compareBytes_cmp] at h
 unfold cmpS
 rw [ByteArray.toList_eq, ByteArray.toList_eq]
 exact h
def encL (l : List Bd) : List V := [.sl (l.map encBd)]
def tot (ls : List (List Bd)) : Nat := (ls.map List.length).sum
theorem tot_snoc (ls : List (List Bd)) (l : List Bd) : tot (ls ++ [l]) = tot ls + l.length := by simp [tot]
theorem tot_take (ls : List (List Bd)) (i : Nat) : tot (ls.take i) ≤ tot ls := by
 have : tot ls = tot (ls.take i) + tot (ls.drop i) := by
  simp only [tot, List.map_take, List.map_drop]
  rw [← List.sum_append, List.take_append_drop]
 omega
theorem flat_tot (ls : List (List Bd)) : ls.flatten.length = tot ls := by simp [tot, List.length_flatten]
theorem of_spec (nm : ByteArray) (e : Ev) (hp : okP [⟨nm, e⟩]) (hl : e.attrs.length * 48 ≤ 140737488355328) : PCalls Tryz.prog 67 [.c (.string nm), .agg (encEv e)]
  (fun v => v = if partErr [⟨nm, e⟩] ≠ 0 then .tup [.agg [.sl []], .c (.int .i64 (partErr [⟨nm, e⟩]))] else .tup [.agg [.sl ([(⟨nm, e⟩ : Bd)].map encBd)], .c (.int .i64 0)]) := by
 refine PCalls.intro Tryz.call67 Tryz.func67 rfl Tryz.ntmps67 Tryz.results67 (by simp) ?_
 refine AW.sr @encEv.eq_1 ?_
 refine AW.seq_k fun K2 h2 => ?_
 refine AW.reg0 ?_
 iterate 2 refine S.one @encEv.eq_1 ?_
 (refine S.g rfl rfl fun Y Z => ?_; simp only [zz, simprocAttr, encEv]; refine PCalls.eqto (clone_ev _ (by assumption)) ?_ <;> (refine Z _ _ ?_; clear Z Y))
 iterate 5 (refine S.g rfl rfl fun Y Z => ?_; simp only [zb, simprocAttr, tt, encEv]; refine Z _ _ ?_; clear Z Y)
 (refine S.nil ?_; simp only [ze, simprocAttr, encEv]; apply_assumption)
 refine AW.seq_k fun K3 h3 => ?_
 refine AW.seq_k fun K4 h4 => ?_
 refine AW.reg0 ?_
 refine S.one trivial ?_
 (refine S.g rfl rfl fun Y Z => ?_; simp only [zz, simprocAttr]; refine PCalls.eqto (check_part [⟨nm, e⟩] (by assumption)) ?_ <;> (refine Z _ _ ?_; clear Z Y))
 refine S.one trivial ?_
 (refine S.nil ?_; simp only [ze, simprocAttr]; apply_assumption)
 refine AW.sr trivial ?_
 refine AW.cond (b := partErr [⟨nm, e⟩] != 0) (by simp [ev]) (fun hc => ?_) (fun hc => ?_)
 ·have hx : partErr [⟨nm, e⟩] ≠ 0 := by simpa using hc
  refine AW.sr trivial ?_
  refine AW.ret ?_
  simp only [zs, simprocAttr, qLoad, tt, cut, List.drop_zero, List.take_succ_cons, List.take_zero, List.map]
  exact (if_pos hx).symm
 ·have hx : ¬ partErr [⟨nm, e⟩] ≠ 0 := by simpa using hc
  refine AW.skip ?_
  simp only [zs, simprocAttr]
  all_goals apply_assumption
  refine AW.sr trivial ?_
  refine AW.ret ?_
  simp only [zs, simprocAttr, qLoad, tt, cut, List.drop_zero, List.take_succ_cons, List.take_zero, List.map, encBd]
  exact (if_neg hx).symm
def encI (n : Int) : List V := [.c (.int .i64 n)]
theorem len_int (l : List Int) : ∀ (e : List V), e ∈ l.map encI → e.length = 1 := fun e he => by
 obtain ⟨a, _, rfl⟩ := List.mem_map.1 he; rfl
theorem times_spec (l : List Bd) (hn : l.length * 80 ≤ 140737488355328) : PCalls Tryz.prog 122 [.agg [.sl (l.map encBd)]] (fun v => v = .sl ((l.map (·.ev.time)).map encI)) := by
 refine PCalls.intro Tryz.call122 Tryz.func122 rfl Tryz.ntmps122 Tryz.results122 (by simp) ?_
 refine AW.sr trivial ?_
 refine AW.sr trivial ?_
 refine AW.seq_k fun K3 h3 => ?_
 refine AW.sr trivial ?_
 refine AW.block ?_   -- 0
 refine AW.loop (fun m s σ => ∃ i : Nat, m + i = l.length ∧ s.t 7 = .sl (l.map encBd) ∧ s.t 8 = .c (.int .i64 l.length) ∧ s.t 9 = .c (.int .i64 i) ∧
  ((i = 0 ∧ s.t 3 = .c (.slice none 0 0) ∧ σ = Hp.empty) ∨ ∃ k, s.t 3 = .gl k ∧ σ = Hp.empty.setGr k (some ((2, 1), ((l.take i).map (·.ev.time)).map encI)))) l.length ?_ ?_
 ·refine ⟨0, by simp, ?_⟩
  simp only [zs, simprocAttr]
  simp
 rintro m s σ ⟨i, hm, e7, e8, e9, hk⟩
 refine AW.sr (J2 e9 e8) ?_
 refine AW.seq_k fun K6 h6 => ?_
 refine AW.cond (b := decide (i < l.length)) (by simp [ev]) (fun hc => ?_) (fun hc => ?_)
 ·refine AW.skip ?_
  simp only [zs, simprocAttr]
  all_goals apply_assumption
  have hi : i < l.length := by simpa using hc
  have hg := getD_map (f := encBd) hi
  have htk : l.take (i + 1) = l.take i ++ [l[i]] := by rw [List.take_append_getElem]
  generalize ha : l[i] = a at hg htk
  have hw : IntKind.i64.wrap ((i : Int) + 1) = ((i + 1 : Nat) : Int) := by rw [wrap_small _ (by omega) (by omega)]; rfl
  have htl : (l.take i).length = i := by rw [List.length_take]; omega
  refine AW.seq_k fun K7 h7 => ?_
  refine AW.block ?_   -- 1
  refine AW.sr (J5 e7 e9 hi hg @encBd.eq_1) ?_
  rcases hk with ⟨rfl, e3, rfl⟩ | ⟨k, e3, rfl⟩
  ·skip
   refine AW.reg0 ?_
   iterate 5 (refine S.g rfl rfl fun Y Z => ?_; simp only [zb, simprocAttr, tt, e3]; refine Z _ _ ?_; clear Z Y)
   (refine S.g rfl rfl fun Y Z => ?_; simp only [zz, simprocAttr, tt, e3]; refine ⟨len_int [a.ev.time], by unfold maxLen; omega, by unfold reach; omega, fun k2 hk2 => ?_⟩ <;> (refine Z _ _ ?_; clear Z Y))
   refine S.one e3 ?_
   (refine S.nil ?_; simp only [ze, simprocAttr, e3]; apply_assumption)
   have q1q := J4 e9 hw e7 e8
   refine AW.reg0 (S.rn q1q ?_)
   simp only [ze, simprocAttr, q1q]
   refine ⟨m - 1, by omega, 1, by omega, rfl, .inr ⟨k2, rfl, ?_⟩⟩
   rw [show l.take 1 = [] ++ [a] from htk]; rfl
  ·skip
   refine AW.reg0 ?_
   iterate 5 (refine S.g rfl rfl fun Y Z => ?_; simp only [zb, simprocAttr, tt, e3, htl]; refine Z _ _ ?_; clear Z Y)
   (refine S.g rfl rfl fun Y Z => ?_; simp only [zz, simprocAttr, tt, e3, htl]; refine ⟨len_int [a.ev.time], by unfold maxLen; omega, by unfold reach; omega, fun k2 hk2 => ?_⟩ <;> (refine Z _ _ ?_; clear Z Y))
   refine S.one (J2 e3 htl) ?_
   (refine S.nil ?_; simp only [ze, simprocAttr, e3, htl]; apply_assumption)
   have q2q := J4 e9 hw e7 e8
   refine AW.reg0 (S.rn q2q ?_)
   simp only [ze, simprocAttr, q2q]
   refine ⟨m - 1, by omega, i + 1, by omega, rfl, .inr ⟨k2, rfl, ?_⟩⟩
   rw [htk, List.map_append, List.map_append]
   rfl
 ·refine AW.exit ?_
  simp only [zs, simprocAttr]
  -- EXIT 0
  all_goals apply_assumption
  have hi : l.length ≤ i := by simpa using hc
  rcases hk with ⟨rfl, e3, rfl⟩ | ⟨k, e3, rfl⟩
  ·have h0 : l = [] := List.eq_nil_of_length_eq_zero (by omega)
   refine AW.sr e3 ?_
   refine AW.ret ?_
   simp only [zs, simprocAttr, h0, List.map]
  ·rw [List.take_of_length_le hi]
   refine AW.sr e3 ?_
   refine AW.freeze (k := k) (T := (2, 1)) (es := (l.map (·.ev.time)).map encI) (by simp only [Hp.setGr_gr, if_true]) (AW.bare (AW.ret ?_))
   simp only [zs, simprocAttr, fzV, fz1, St.fz_t, St.fz_l]
def minL (a : Int) (r : List Int) : Int := r.foldl (fun m b => if b < m then b else m) a
theorem min_spec (a : Int) (r : List Int) (hn : r.length < 4611686018427387904) : PCalls Tryz.prog 121 [.sl ((a :: r).map encI)] (fun v => v = .c (.int .i64 (minL a r))) := by
 refine PCalls.intro Tryz.call121 Tryz.func121 rfl Tryz.ntmps121 Tryz.results121 (by simp) ?_
 have hlen : (a :: r).length = r.length + 1 := rfl
 have hg0 : ((a :: r).map encI).getD 0 [] = encI a := rfl
 have hlm : ((a :: r).map encI).length = r.length + 1 := by simp
 generalize hes : (a :: r).map encI = es at hg0 hlm ⊢
 refine AW.sr trivial ?_
 have hw0 : IntKind.i64.wrap ((r.length : Int) + 1) = ((r.length + 1 : Nat) : Int) := by rw [wrap_small _ (by omega) (by omega)]; rfl
 refine AW.seq_k fun K2 h2 => ?_
 refine AW.sr hlm ?_
 refine AW.cond (b := decide (((r.length + 1 : Nat) : Int) < 1)) (by simp [ev]) (fun hc => ?_) (fun hc => ?_)
 ·have := of_decide_eq_true hc; omega
 refine AW.skip ?_
 all_goals simp only [zs, simprocAttr]
 all_goals apply_assumption
 have h00 : (0 : Int) < ((r.length + 1 : Nat) : Int) := by omega
 all_goals refine AW.sr (J6 hlm hg0 @encI.eq_1 h00 @Int.toNat_zero @Int.le_refl) ?_
 refine AW.seq_k fun K5 h5 => ?_
 all_goals refine AW.sr trivial ?_
 refine AW.block ?_   -- 0
 refine AW.loop (fun m s σ => σ = Hp.empty ∧ ∃ j : Nat, m + j = r.length ∧ s.t 0 = .sl es ∧ s.t 4 = .c (.int .i64 ((j + 1 : Nat) : Int)) ∧ s.t 3 = .c (.int .i64 (minL a (r.take j)))) r.length ?_ ?_
 ·refine ⟨rfl, 0, by simp, ?_⟩
  simp only [zs, reduceIte, Nat.reduceEqDiff, Nat.reduceLT, Nat.reduceLeDiff, Nat.reduceAdd, reduceCtorEq, Nat.reduceMul]
  exact ⟨rfl, rfl⟩
 rintro m s σ ⟨rfl, j, hm, e0, e4, e3⟩
 refine AW.seq_k fun K7 h7 => ?_
 all_goals refine AW.sr (J3 e0 e4 hlm) ?_
 refine AW.cond (b := decide (j + 1 < r.length + 1)) (by simp [ev]) (fun hc => ?_) (fun hc => ?_)
 ·refine AW.skip ?_
  simp only [zs, simprocAttr]
  all_goals apply_assumption
  have hj : j < r.length := by have := of_decide_eq_true hc; omega
  have hj1 : j + 1 < r.length + 1 := by omega
  have hg : es.getD (j + 1) [] = encI r[j] := by rw [← hes]; simp [hj]
  have htk : r.take (j + 1) = r.take j ++ [r[j]] := by rw [List.take_append_getElem]
  have hw : IntKind.i64.wrap (((j + 1 : Nat) : Int) + 1) = ((j + 1 + 1 : Nat) : Int) := by rw [wrap_small _ (by omega) (by omega)]; rfl
  generalize hb : r[j] = b at hg htk
  refine AW.seq_k fun K9 h9 => ?_
  refine AW.block ?_   -- 1
  refine AW.reg0 (S.rn (J7 e0 e4 e3 hlm hg @encI.eq_1 hj1) ?_)
  all_goals apply_assumption
  refine AW.reg0 (S.rn (J2 e4 hw) ?_)
  simp only [ze, simprocAttr, e4, hw]
  refine ⟨m - 1, by omega, j + 1, by omega, e0, rfl, ?_⟩
  rw [htk]
  simp only [minL, List.foldl_append, List.foldl_cons, List.foldl_nil]
  first | done | rfl | (congr 1)
 ·refine AW.exit ?_
  simp only [zs, simprocAttr]
  -- EXIT 0
  all_goals apply_assumption
  have hj : r.length ≤ j := by have := of_decide_eq_false hc; omega
  rw [List.take_of_length_le hj] at e3
  refine AW.sr e3 ?_
  refine AW.ret ?_
  simp only [zs, simprocAttr]
def maxL (a : Int) (r : List Int) : Int := r.foldl (fun m b => if m < b then b else m) a
theorem max_spec (a : Int) (r : List Int) (hn : r.length < 4611686018427387904) : PCalls Tryz.prog 123 [.sl ((a :: r).map encI)] (fun v => v = .c (.int .i64 (maxL a r))) := by
 refine PCalls.intro Tryz.call123 Tryz.func123 rfl Tryz.ntmps123 Tryz.results123 (by simp) ?_
 have hlen : (a :: r).length = r.length + 1 := rfl
 have hg0 : ((a :: r).map encI).getD 0 [] = encI a := rfl
 have hlm : ((a :: r).map encI).length = r.length + 1 := by simp
 generalize hes : (a :: r).map encI = es at hg0 hlm ⊢
 refine AW.sr trivial ?_
 have hw0 : IntKind.i64.wrap ((r.length : Int) + 1) = ((r.length + 1 : Nat) : Int) := by rw [wrap_small _ (by omega) (by omega)]; rfl
 refine AW.seq_k fun K2 h2 => ?_
 refine AW.sr hlm ?_
 refine AW.cond (b := decide (((r.length + 1 : Nat) : Int) < 1)) (by simp [ev]) (fun hc => ?_) (fun hc => ?_)
 ·have := of_decide_eq_true hc; omega
 refine AW.skip ?_
 all_goals simp only [zs, simprocAttr]
 all_goals apply_assumption
 have h00 : (0 : Int) < ((r.length + 1 : Nat) : Int) := by omega
 all_goals refine AW.sr (J6 hlm hg0 @encI.eq_1 h00 @Int.toNat_zero @Int.le_refl) ?_
 refine AW.seq_k fun K5 h5 => ?_
 all_goals refine AW.sr trivial ?_
 refine AW.block ?_   -- 0
 refine AW.loop (fun m s σ => σ = Hp.empty ∧ ∃ j : Nat, m + j = r.length ∧ s.t 0 = .sl es ∧ s.t 4 = .c (.int .i64 ((j + 1 : Nat) : Int)) ∧ s.t 3 = .c (.int .i64 (maxL a (r.take j)))) r.length ?_ ?_
 ·refine ⟨rfl, 0, by simp, ?_⟩
  simp only [zs, reduceIte, Nat.reduceEqDiff, Nat.reduceLT, Nat.reduceLeDiff, Nat.reduceAdd, reduceCtorEq, Nat.reduceMul]
  exact ⟨rfl, rfl⟩
 rintro m s σ ⟨rfl, j, hm, e0, e4, e3⟩
 refine AW.seq_k fun K7 h7 => ?_
 all_goals refine AW.sr (J3 e0 e4 hlm) ?_
 refine AW.cond (b := decide (j + 1 < r.length + 1)) (by simp [ev]) (fun hc => ?_) (fun hc => ?_)
 ·refine AW.skip ?_
  simp only [zs, simprocAttr]
  all_goals apply_assumption
  have hj : j < r.length := by have := of_decide_eq_true hc; omega
  have hj1 : j + 1 < r.length + 1 := by omega
  have hg : es.getD (j + 1) [] = encI r[j] := by rw [← hes]; simp [hj]
  have htk : r.take (j + 1) = r.take j ++ [r[j]] := by rw [List.take_append_getElem]
  have hw : IntKind.i64.wrap (((j + 1 : Nat) : Int) + 1) = ((j + 1 + 1 : Nat) : Int) := by rw [wrap_small _ (by omega) (by omega)]; rfl
  generalize hb : r[j] = b at hg htk
  refine AW.seq_k fun K9 h9 => ?_
  refine AW.block ?_   -- 1
  refine AW.reg0 (S.rn (J7 e0 e4 e3 hlm hg @encI.eq_1 hj1) ?_)
  all_goals apply_assumption
  refine AW.reg0 (S.rn (J2 e4 hw) ?_)
  simp only [ze, simprocAttr, e4, hw]
  refine ⟨m - 1, by omega, j + 1, by omega, e0, rfl, ?_⟩
  rw [htk]
  simp only [maxL, List.foldl_append, List.foldl_cons, List.foldl_nil]
  first | done | rfl | (congr 1)
 ·refine AW.exit ?_
  simp only [zs, simprocAttr]
  -- EXIT 0
  all_goals apply_assumption
  have hj : r.length ≤ j := by have := of_decide_eq_false hc; omega
  rw [List.take_of_length_le hj] at e3
  refine AW.sr e3 ?_
  refine AW.ret ?_
  simp only [zs, simprocAttr]
def beginOf (l : List Bd) : Int := match l.map (·.ev.time) with
  | [] => 0
  | a :: r => minL a r
theorem begin_spec (l : List Bd) (hn : l.length * 80 ≤ 140737488355328) : PCalls Tryz.prog 88 [.agg [.sl (l.map encBd)]] (fun v => v = .c (.int .i64 (beginOf l))) := by
 refine PCalls.intro Tryz.call88 Tryz.func88 rfl Tryz.ntmps88 Tryz.results88 (by simp) ?_
 refine AW.sr trivial ?_
 refine AW.seq_k fun K2 h2 => ?_
 refine AW.sr trivial ?_
 refine AW.cond (b := ((l.length : Int) == 0)) (by simp [ev]) (fun hc => ?_) (fun hc => ?_)
 ·refine AW.sr trivial ?_
  refine AW.ret ?_
  simp only [zs, simprocAttr]
  have h0 : l = [] := List.eq_nil_of_length_eq_zero (by have h := beq_iff_eq.mp hc; omega)
  simp [h0, beginOf]
 ·refine AW.skip ?_
  simp only [zs, simprocAttr]
  all_goals apply_assumption
  cases l with
  | nil => simp at hc
  | cons b r =>
  have hr : r.length + 1 = (b :: r).length := rfl
  have hn2 : (r.length + 1) * 80 ≤ 140737488355328 := hn
  refine AW.seq_k fun K5 h5 => ?_
  refine AW.reg0 ?_
  refine S.one trivial ?_
  (refine S.g rfl rfl fun Y Z => ?_; simp only [zz, simprocAttr]; refine PCalls.eqto (times_spec (b :: r) hn) ?_ <;> (refine Z _ _ ?_; clear Z Y))
  (refine S.g rfl rfl fun Y Z => ?_; simp only [zz, simprocAttr]; refine PCalls.eqto (min_spec b.ev.time (r.map (fun x : Bd => x.ev.time)) (by rw [List.length_map]; omega)) ?_ <;> (refine Z _ _ ?_; clear Z Y))
  refine S.one trivial ?_
  (refine S.nil ?_; simp only [ze, simprocAttr]; apply_assumption)
  refine AW.ret ?_
  simp only [zs, simprocAttr]
  rfl
def endOf (l : List Bd) : Int := match l.map (·.ev.time) with
  | [] => 0
  | a :: r => maxL a r
theorem end_spec (l : List Bd) (hn : l.length * 80 ≤ 140737488355328) : PCalls Tryz.prog 89 [.agg [.sl (l.map encBd)]] (fun v => v = .c (.int .i64 (endOf l))) := by
 refine PCalls.intro Tryz.call89 Tryz.func89 rfl Tryz.ntmps89 Tryz.results89 (by simp) ?_
 refine AW.sr trivial ?_
 refine AW.seq_k fun K2 h2 => ?_
 refine AW.sr trivial ?_
 refine AW.cond (b := ((l.length : Int) == 0)) (by simp [ev]) (fun hc => ?_) (fun hc => ?_)
 ·refine AW.sr trivial ?_
  refine AW.ret ?_
  simp only [zs, simprocAttr]
  have h0 : l = [] := List.eq_nil_of_length_eq_zero (by have h := beq_iff_eq.mp hc; omega)
  simp [h0, endOf]
 ·refine AW.skip ?_
  simp only [zs, simprocAttr]
  all_goals apply_assumption
  cases l with
  | nil => simp at hc
  | cons b r =>
  have hr : r.length + 1 = (b :: r).length := rfl
  have hn2 : (r.length + 1) * 80 ≤ 140737488355328 := hn
  refine AW.seq_k fun K5 h5 => ?_
  refine AW.reg0 ?_
  refine S.one trivial ?_
  (refine S.g rfl rfl fun Y Z => ?_; simp only [zz, simprocAttr]; refine PCalls.eqto (times_spec (b :: r) hn) ?_ <;> (refine Z _ _ ?_; clear Z Y))
  (refine S.g rfl rfl fun Y Z => ?_; simp only [zz, simprocAttr]; refine PCalls.eqto (max_spec b.ev.time (r.map (fun x : Bd => x.ev.time)) (by rw [List.length_map]; omega)) ?_ <;> (refine Z _ _ ?_; clear Z Y))
  refine S.one trivial ?_
  (refine S.nil ?_; simp only [ze, simprocAttr]; apply_assumption)
  refine AW.ret ?_
  simp only [zs, simprocAttr]
  rfl
def sink (lo : Nat) : Nat → List Bd → List Bd
  | 0, l => l
  | j + 1, l => match l[j + 1]?, l[j]? with
    | some x, some y => if lo < j + 1 ∧ cmpS x.var y.var < 0 then sink lo j ((l.set (j + 1) y).set j x) else l
    | _, _ => l
theorem sink_stay {lo j : Nat} {l : List Bd} {x y : Bd} (hx : l[j]? = some x) (hy : l[j-1]? = some y) (h : ¬ cmpS x.var y.var < 0) : sink lo j l = l := by
  cases j with
  | zero => rfl
  | succ q =>
    rw [Nat.add_sub_cancel] at hy
    simp [sink, hx, hy, h]
theorem sink_low {lo j : Nat} {l : List Bd} (h : ¬ lo < j) : sink lo j l = l := by
  cases j with
  | zero => rfl
  | succ q =>
    simp only [sink]
    split
    · rw [if_neg (fun e => h e.1)]
    · rfl
theorem sink_go {lo j : Nat} {l : List Bd} {x y : Bd} (hl : lo < j) (hx : l[j]? = some x) (hy : l[j-1]? = some y) (h : cmpS x.var y.var < 0) : sink lo j l = sink lo (j - 1) ((l.set j y).set (j - 1) x) := by
  cases j with
  | zero => omega
  | succ q =>
    rw [Nat.add_sub_cancel] at hy
    simp [sink, hx, hy, h, hl]
def insFrom (lo : Nat) (l : List Bd) (i m : Nat) : List Bd := (List.range' i m).foldl (fun l i => sink lo i l) l
def insort (lo hi : Nat) (l : List Bd) : List Bd := insFrom lo l (lo + 1) (hi - (lo + 1))
def hpB (k : Nat) (l : List Bd) : Hp := Hp.empty.setGr k (some ((50, 6), l.map encBd))
theorem insort_spec (l : List Bd) (k lo hi : Nat) (hlo : lo ≤ hi) (hhi : hi ≤ l.length) (hn : l.length < 4611686018427387904) :
    ACalls Tryz.prog 186 [.gl k, .c (.int .i64 lo), .c (.int .i64 hi), .fn (.func 141) [] []] (hpB k l) (fun v σ' => v = .tup [] ∧ σ' = hpB k (insort lo hi l)) := by
  refine ACalls.intro Tryz.call186 Tryz.func186 rfl Tryz.ntmps186 Tryz.results186 (by simp) ?_
  have hw1 : IntKind.i64.wrap ((lo : Int) + 1) = ((lo + 1 : Nat) : Int) := by rw [wrap_small _ (by omega) (by omega)]; rfl
  refine AW.sr hw1 ?_
  refine AW.block ?_   -- 0
  refine AW.loop (fun m s σ => ∃ i l', m + i = hi + 1 + lo ∧ lo + 1 ≤ i ∧ s.t 0 = .gl k ∧ s.t 1 = .c (.int .i64 lo) ∧ s.t 2 = .c (.int .i64 hi) ∧ s.t 3 = .fn (.func 141) [] [] ∧ s.t 8 = .c (.int .i64 (i : Nat)) ∧
    σ = hpB k l' ∧ l'.length = l.length ∧ insort lo hi l = insFrom lo l' i (hi - i)) hi ?_ ?_
  · refine ⟨lo + 1, l, by omega, Nat.le_refl _, ?_⟩
    simp only [zs, simprocAttr]
    simp [insort]
  rintro m s σ ⟨i, l', hm, hi1, e0, e1, e2, e3, e8, rfl, hl', hp⟩
  refine AW.seq_k fun K2 h2 => ?_
  refine AW.sr (J2 e2 e8) ?_
  refine AW.cond (b := decide (i < hi)) (by simp [ev]) (fun hc => ?_) (fun hc => ?_)
  · refine AW.skip ?_
    simp only [zs, simprocAttr]
    all_goals apply_assumption
    have hih : i < hi := by simpa using hc
    refine AW.seq_k fun K4 h4 => ?_
    refine AW.block ?_   -- 1
    refine AW.sr e8 ?_
    refine AW.block ?_   -- 2
    refine AW.loop (fun m s σ => ∃ j l2, m = j ∧ j ≤ i ∧ s.t 0 = .gl k ∧ s.t 1 = .c (.int .i64 lo) ∧ s.t 2 = .c (.int .i64 hi) ∧ s.t 3 = .fn (.func 141) [] [] ∧ s.t 8 = .c (.int .i64 (i : Nat)) ∧ s.t 9 = .c (.int .i64 (j : Nat)) ∧
      σ = hpB k l2 ∧ l2.length = l.length ∧ sink lo i l' = sink lo j l2) i ?_ ?_
    · refine ⟨i, l', rfl, Nat.le_refl _, ?_⟩
      simp only [zs, simprocAttr]
      refine ⟨e0, e1, e2, e3, e8, ?_⟩
      simp [hl']
    rintro j s2 σ2 ⟨_, l2, rfl, hji, f0, f1, f2, f3, f8, f9, rfl, hl2, hs⟩
    refine AW.seq_k fun K6 h6 => ?_
    refine AW.seq_j (fun s' σ' => σ' = hpB k l2 ∧ s'.t 0 = .gl k ∧ s'.t 1 = .c (.int .i64 lo) ∧ s'.t 2 = .c (.int .i64 hi) ∧ s'.t 3 = .fn (.func 141) [] [] ∧ s'.t 8 = .c (.int .i64 (i : Nat)) ∧ s'.t 9 = .c (.int .i64 (j : Nat)) ∧
      ∃ b, s'.t 34 = .c (.bool b) ∧ (b = true → lo < j ∧ ∃ x y : Bd, l2[j]? = some x ∧ l2[j-1]? = some y ∧ cmpS x.var y.var < 0) ∧ (b = false → sink lo j l2 = l2)) ?_ ?_
    · clear hp hs
      have hpb : (hpB k l2).gr k = some ((50, 6), l2.map encBd) := by simp [hpB]
      by_cases hlj : lo < j
      · have hj1 : j < l2.length := by omega
        have hj2 : j - 1 < l2.length := by omega
        have hg1 := getD_map (f := encBd) hj1
        have hg2 := getD_map (f := encBd) hj2
        have hx : l2[j]? = some l2[j] := List.getElem?_eq_getElem hj1
        have hy : l2[j-1]? = some l2[j-1] := List.getElem?_eq_getElem hj2
        generalize l2[j] = x at hg1 hx
        generalize l2[j-1] = y at hg2 hy
        have hw : IntKind.i64.wrap ((j : Int) - 1) = ((j - 1 : Nat) : Int) := by rw [wrap_small _ (by omega) (by omega)]; omega
        generalize hsg : hpB k l2 = σ0 at hpb ⊢
        refine AW.draw2 (T := { sd := fun _ => false }) (fun _ _ h => by cases h) mixedO [(0, 0), (1, 0), (2, 0), (3, 0), (4, 0), (5, 0), (6, 0), (7, 0), (9, 0), (10, 0), (11, 0), (12, 0)] 8 13 [(14, 2), (15, 0), (16, 0)] #[true, true, true, true, true, true, true, true, false, true, true, true, true, false, false, false, false] rfl (by kernel_rfl) (by kernel_rfl) (by kernel_rfl) (by kernel_rfl) (by kernel_rfl) ?_
        all_goals have q1q := J11 f0 f1 f3 f9 hpb hj1 hj2 hg1 hg2 hw @encBd.eq_1
        all_goals iterate 2 refine D.one q1q ?_
        all_goals (refine D.sp q1q fun b a20 => ?_; cases b <;> (try exact nope a20))
        all_goals iterate 9 refine D.one q1q ?_
        all_goals refine D.nil ⟨?_, ?_⟩
        all_goals iterate 2 refine D.one q1q ?_
        all_goals have q2q := J11 f0 f1 f3 f9 hpb hj1 hj2 hg1 hg2 hw @encBd.eq_1
        all_goals (first | (refine D.y rfl trivial rfl rfl rfl rfl fun Y Z => ?_; simp only [zz, simprocAttr, q2q]; refine PCalls.eqto (less_spec x y) ?_ <;> (refine Z _ _ ?_; clear Z Y)) | refine D.one trivial ?_)
        all_goals iterate 2 refine D.one q2q ?_
        all_goals refine D.nil ?_
        all_goals simp only [ze, simprocAttr, q2q]
        all_goals exact ⟨f2, f8, _, rfl, fun h => ⟨hlj, x, y, hx, hy, of_decide_eq_true h⟩, fun h => sink_stay hx hy (of_decide_eq_false h)⟩
      · generalize hsg : hpB k l2 = σ0 at hpb ⊢
        refine AW.draw2 (T := { sd := fun _ => false }) (fun _ _ h => by cases h) mixedO [(0, 0), (1, 0), (2, 0), (3, 0), (4, 0), (5, 0), (6, 0), (7, 0), (9, 0), (10, 0), (11, 0), (12, 0)] 8 13 [(14, 2), (15, 0), (16, 0)] #[true, true, true, true, true, true, true, true, false, true, true, true, true, false, false, false, false] rfl (by kernel_rfl) (by kernel_rfl) (by kernel_rfl) (by kernel_rfl) (by kernel_rfl) ?_
        all_goals have q3q := J4 f0 f1 f3 f9
        all_goals iterate 2 refine D.one q3q ?_
        all_goals (refine D.sp q3q fun b a20 => ?_; cases b <;> (try exact nope a20))
        all_goals iterate 9 refine D.one q3q ?_
        all_goals refine D.nil ⟨?_, ?_⟩
        all_goals iterate 2 refine D.one q3q ?_
        all_goals have q4q := J4 f0 f1 f3 f9
        all_goals (first | (refine D.y rfl trivial rfl rfl rfl rfl fun Y Z => ?_; simp only [zz, simprocAttr, q4q]; refine PCalls.eqto (less_spec x y) ?_ <;> (refine Z _ _ ?_; clear Z Y)) | refine D.one trivial ?_)
        all_goals iterate 2 refine D.one q4q ?_
        all_goals refine D.nil ?_
        all_goals simp only [ze, simprocAttr, q4q]
        all_goals exact ⟨f2, f8, _, rfl, (fun h => by cases h), fun _ => sink_low hlj⟩
    rintro s3 σ3 ⟨rfl, g0, g1, g2, g3, g8, g9, b, g34, hbt, hbf⟩
    refine AW.cond (b := b) g34 (fun hb => AW.skip ?_) (fun hb => AW.exit ?_)
    · simp only [zs, simprocAttr]
      all_goals apply_assumption
      obtain ⟨hlj, x, y, hx, hy, hlt⟩ := hbt hb
      have hs2 := sink_go hlj hx hy hlt
      have hj1 : j < l2.length := (List.getElem?_eq_some_iff.1 hx).1
      have hj2 : j - 1 < l2.length := by omega
      have hg1 : (l2.map encBd).getD j [] = encBd x := by rw [getD_map hj1, (List.getElem?_eq_some_iff.1 hx).2]
      have hg2 : (l2.map encBd).getD (j - 1) [] = encBd y := by rw [getD_map hj2, (List.getElem?_eq_some_iff.1 hy).2]
      have hgs : ∀ v, ((l2.map encBd).set j v).getD (j - 1) [] = encBd y := fun v => by
        rw [← hg2]; simp [List.getD, List.getElem?_set, show j ≠ j - 1 by omega]
      have hw : IntKind.i64.wrap ((j : Int) - 1) = ((j - 1 : Nat) : Int) := by rw [wrap_small _ (by omega) (by omega)]; omega
      have hpb : hpB k l2 = Hp.empty.setGr k (some ((50, 6), l2.map encBd)) := rfl
      rw [hpb]
      refine AW.seq_k fun K7 h7 => ?_
      refine AW.block ?_   -- 3
      refine AW.mono (Q := thenS (fun s' σ' => σ' = hpB k ((l2.set j y).set (j - 1) x) ∧ s'.t 0 = .gl k ∧ s'.t 1 = .c (.int .i64 lo) ∧ s'.t 2 = .c (.int .i64 hi) ∧ s'.t 3 = .fn (.func 141) [] [] ∧ s'.t 8 = .c (.int .i64 (i : Nat)) ∧ s'.t 9 = .c (.int .i64 (j : Nat))) (fun _ _ _ => False)) ?_ ?_
      · skip
        refine AW.draw2 (T := { sd := fun _ => false }) (fun _ _ h => by cases h) mixedO [(0, 0), (1, 0), (2, 0), (3, 0), (4, 0), (5, 0), (6, 0), (7, 0), (8, 0), (10, 0), (11, 0), (12, 0)] 9 13 [(14, 0), (15, 2), (16, 0), (17, 2)] #[true, true, true, true, true, true, true, true, true, false, true, true, true, false, false, false, false, false] rfl (by kernel_rfl) (by kernel_rfl) (by kernel_rfl) (by kernel_rfl) (by kernel_rfl) ?_
        all_goals have q5q := J12 g0 g1 g2 g3 g8 g9 hj1 hj2 hg1 hg2 hgs (J3 hw @encBd.eq_1 @List.length_set.{0})
        all_goals iterate 12 refine D.one q5q ?_
        all_goals refine D.nil ⟨?_, ?_⟩
        all_goals iterate 6 refine D.one q5q ?_
        all_goals refine D.nil ?_
        all_goals simp only [ze, simprocAttr, q5q]
        all_goals simp [hpB, encBd, List.map_set]
      rintro e s4 σ4 hq
      cases e with
      | normal =>
        obtain ⟨rfl, q0, q1, q2, q3, q8, q9⟩ := hq
        simp only [zs, simprocAttr]
        all_goals apply_assumption
        refine AW.reg0 (S.rn (J2 q9 hw) ?_)
        simp only [ze, simprocAttr, q9, hw]
        refine ⟨j - 1, by omega, j - 1, (l2.set j y).set (j - 1) x, rfl, by omega, q0, q1, q2, q3, q8, rfl, rfl, by simp [hl2], ?_⟩
        rw [hs, hs2]
      | _ => exact hq.elim
    · simp only [zs, simprocAttr]
      all_goals apply_assumption
      have hw : IntKind.i64.wrap ((i : Int) + 1) = ((i + 1 : Nat) : Int) := by rw [wrap_small _ (by omega) (by omega)]; rfl
      refine AW.reg0 (S.rn (J2 g8 hw) ?_)
      simp only [ze, simprocAttr, g8, hw]
      refine ⟨m - 1, by omega, i + 1, l2, by omega, by omega, g0, g1, g2, g3, rfl, rfl, hl2, ?_⟩
      rw [hp, show hi - i = (hi - (i + 1)) + 1 by omega]
      simp only [insFrom, List.range'_succ, List.foldl_cons]
      rw [hs, hbf hb]
  · refine AW.exit ?_
    simp only [zs, simprocAttr]
    -- EXIT 0
    have hih : hi ≤ i := by simpa using hc
    have h0 : hi - i = 0 := by omega
    rw [h0] at hp
    rw [hp]; exact ⟨rfl, rfl⟩
theorem stable_small (l : List Bd) (k : Nat) (hn : l.length < 20) :
  ACalls Tryz.prog 171 [.gl k, .c (.int .i64 l.length), .fn (.func 141) [] []] (hpB k l) (fun v σ' => v = .tup [] ∧ σ' = hpB k (insort 0 l.length l)) := by
 refine ACalls.intro Tryz.call171 Tryz.func171 rfl Tryz.ntmps171 Tryz.results171 (by simp) ?_
 refine AW.sr trivial ?_
 refine AW.sr trivial ?_
 refine AW.seq_k fun K3 h3 => ?_
 refine AW.block ?_   -- 0
 refine AW.loop (fun m s σ => σ = hpB k l ∧ s.t 0 = .gl k ∧ s.t 1 = .c (.int .i64 l.length) ∧ s.t 2 = .fn (.func 141) [] [] ∧ s.t 6 = .c (.int .i64 20) ∧ s.t 7 = .c (.int .i64 ((0 : Nat) : Int)) ∧ s.t 8 = .c (.int .i64 20)) 0 ?_ ?_
 ·refine ⟨rfl, ?_⟩
  simp only [zs, reduceIte, Nat.reduceEqDiff, Nat.reduceLT, Nat.reduceLeDiff, Nat.reduceAdd, reduceCtorEq, Nat.reduceMul]
  simp
 rintro m s σ ⟨rfl, e0, e1, e2, e6, e7, e8⟩
 refine AW.seq_k fun K4 h4 => ?_
 all_goals refine AW.sr (J2 e1 e8) ?_
 refine AW.cond (b := decide ((20 : Int) ≤ l.length)) (by simp [ev]) (fun hc => ?_) (fun hc => ?_)
 ·have := of_decide_eq_true hc; omega
 refine AW.exit ?_
 all_goals simp only [zs, simprocAttr]
 all_goals apply_assumption
 refine AW.seq_k fun K6 h6 => ?_
 all_goals refine AW.reg0 ?_
 all_goals iterate 4 refine S.one (J4 e0 e1 e2 e7) ?_
 all_goals have q1q := J4 e0 e1 e2 e7
 all_goals (refine S.g rfl rfl fun Y Z => ?_; simp only [zz, simprocAttr, q1q]; refine (insort_spec l k 0 l.length (Nat.zero_le _) (Nat.le_refl _) (by omega)).to fun v σ1 hv => ?_; obtain ⟨rfl, rfl⟩ := hv <;> (refine Z _ _ ?_; clear Z Y))
 all_goals (refine S.nil ?_; simp only [ze, simprocAttr, q1q]; apply_assumption)
 refine AW.block ?_   -- 2
 refine AW.loop (fun m s σ => σ = hpB k (insort 0 l.length l) ∧ s.t 1 = .c (.int .i64 l.length) ∧ s.t 6 = .c (.int .i64 20)) 0 ?_ ?_
 ·refine ⟨rfl, ?_⟩
  simp only [zs, simprocAttr]
  first | exact ⟨e1, e6⟩ | exact ⟨e1, e6, trivial⟩ | simp [e1, e6]
 rintro m2 s2 σ2 ⟨rfl, f1, f6⟩
 refine AW.seq_k fun K7 h7 => ?_
 all_goals refine AW.sr (J2 f1 f6) ?_
 refine AW.cond (b := decide ((20 : Int) < l.length)) (by simp [ev]) (fun hc => ?_) (fun hc => ?_)
 ·have := of_decide_eq_true hc; omega
 refine AW.exit ?_
 all_goals simp only [zs, simprocAttr]
 first | exact ⟨rfl, rfl⟩ | rfl
theorem sort_small (l : List Bd) (k : Nat) (hn : l.length < 20) :
    ACalls Tryz.prog 140 [.gl k, .fn (.func 141) [] []] (hpB k l) (fun v σ' => v = .tup [] ∧ σ' = hpB k (insort 0 l.length l)) := by
  refine ACalls.intro Tryz.call140 Tryz.func140 rfl Tryz.ntmps140 Tryz.results140 (by simp) ?_
  have hpb : (hpB k l).gr k = some ((50, 6), l.map encBd) := by simp [hpB]
  refine AW.mono (Q := thenS (fun s' σ' => σ' = hpB k (insort 0 l.length l)) (fun _ _ _ => False)) ?_ ?_
  · clear hpb; unfold hpB
    refine AW.reg0 ?_
    iterate 4 refine S.one trivial ?_
    (refine S.g rfl rfl fun Y Z => ?_; simp only [zz, simprocAttr]; refine (stable_small l k hn).to fun v σ1 hv => ?_; obtain ⟨rfl, rfl⟩ := hv <;> (refine Z _ _ ?_; clear Z Y))
    refine S.nil ?_
    simp only [ze, simprocAttr]
    rfl
  rintro e s σ hq
  cases e with
  | normal =>
    have hq : σ = hpB k (insort 0 l.length l) := hq
    subst hq
    simp only [zs, simprocAttr]
    first | exact ⟨rfl, rfl⟩ | rfl
  | _ => exact hq.elim
theorem concat_frozen (ls : List (List Bd)) (h0 : ls ≠ []) (hn : ls.length < 4611686018427387904) (ht : tot ls * 80 ≤ 140737488355328) :
  PCalls Tryz.prog 139 [.sl (ls.map encL)] (fun v => v = .sl (ls.flatten.map encBd)) := by
 refine PCalls.intro Tryz.call139 Tryz.func139 rfl Tryz.ntmps139 Tryz.results139 (by simp) ?_
 refine AW.sr trivial ?_
 refine AW.sr trivial ?_
 refine AW.seq_j (fun s' σ' => σ' = Hp.empty ∧ s'.t 0 = .sl (ls.map encL) ∧ s'.t 3 = .c (.int .i64 (tot ls))) ?_ ?_
 ·refine AW.sr trivial ?_
  refine AW.block ?_   -- 0
  refine AW.loop (fun m s σ => σ = Hp.empty ∧ ∃ i : Nat, m + i = ls.length ∧ s.t 0 = .sl (ls.map encL) ∧ s.t 9 = .sl (ls.map encL) ∧ s.t 10 = .c (.int .i64 ls.length) ∧ s.t 11 = .c (.int .i64 i) ∧ s.t 3 = .c (.int .i64 (tot (ls.take i)))) ls.length ?_ ?_
  ·refine ⟨rfl, 0, by simp, ?_⟩
   simp only [zs, simprocAttr]
   simp [tot]
  rintro m s σ ⟨rfl, i, hm, e0, e9, e10, e11, e3⟩
  all_goals refine AW.sr (J2 e10 e11) ?_
  refine AW.seq_k fun K5 h5 => ?_
  refine AW.cond (b := decide (i < ls.length)) (by simp [ev]) (fun hc => ?_) (fun hc => ?_)
  ·refine AW.skip ?_
   simp only [zs, simprocAttr]
   all_goals apply_assumption
   have hi : i < ls.length := by simpa using hc
   have hg := getD_map (f := encL) hi
   have htk : ls.take (i + 1) = ls.take i ++ [ls[i]] := by rw [List.take_append_getElem]
   generalize ha : ls[i] = a at hg htk
   have hle : tot (ls.take (i + 1)) ≤ tot ls := tot_take ls (i + 1)
   rw [htk, tot_snoc] at hle
   have hw : IntKind.i64.wrap ((i : Int) + 1) = ((i + 1 : Nat) : Int) := by rw [wrap_small _ (by omega) (by omega)]; rfl
   have hw2 : IntKind.i64.wrap ((tot (ls.take i) : Int) + a.length) = ((tot (ls.take i) + a.length : Nat) : Int) := by rw [wrap_small _ (by omega) (by omega)]; omega
   refine AW.seq_k fun K6 h6 => ?_
   refine AW.block ?_   -- 1
   refine AW.sr (J5 e9 e11 hi hg @encL.eq_1) ?_
   refine AW.sr (J2 e3 hw2) ?_
   refine AW.sr trivial ?_
   refine AW.cond (b := decide (((tot (ls.take i) + a.length : Nat) : Int) < 0)) (by simp [ev]) (fun hc => ?_) (fun hc => ?_)
   ·have := of_decide_eq_true hc; omega
   refine AW.skip ?_
   all_goals simp only [zs, simprocAttr]
   all_goals apply_assumption
   all_goals refine AW.reg0 (S.rn (J2 e11 hw) ?_)
   all_goals simp only [ze, simprocAttr, e11, hw]
   refine ⟨m - 1, by omega, i + 1, by omega, e0, e9, e10, rfl, ?_⟩
   rw [htk, tot_snoc]
  ·refine AW.exit ?_
   simp only [zs, simprocAttr]
   have hi : ls.length ≤ i := by simpa using hc
   rw [List.take_of_length_le hi] at e3
   exact ⟨e0, e3⟩
 rintro s0 σ0 ⟨rfl, e0, e3⟩
 refine AW.seq_j (fun s' σ' => s'.t 0 = .sl (ls.map encL) ∧ ((s'.t 6 = .c (.slice none 0 0) ∧ σ' = Hp.empty) ∨ ∃ k, s'.t 6 = .gl k ∧ σ' = Hp.empty.setGr k (some ((50, 6), [])))) ?_ ?_
 ·skip
  refine AW.region (T := { raw := fun d => d == 170 }) (fun _ _ h => by cases h) rfl ?_
  all_goals refine S.one (J2 e0 e3) ?_
  all_goals (refine S.g rfl rfl fun Y Z => ?_; simp only [zz, simprocAttr, -Int.reduceNatCast', e0, e3]; refine (grow_spec _ ht).mono fun v σ1 hv => ?_ <;> (refine Z _ _ ?_; clear Z Y))
  all_goals refine S.one (J2 e0 e3) ?_
  all_goals refine S.nil ?_
  all_goals simp only [ze, simprocAttr, e0, e3]
  rcases hv with ⟨h1, h2, _⟩ | h
  ·exact .inl ⟨h1, h2⟩
  ·exact .inr h
 rintro s1 σ1 ⟨f0, hv⟩
 refine AW.seq_k fun K10 h10 => ?_
 all_goals refine AW.sr f0 ?_
 refine AW.block ?_   -- 2
 refine AW.loop (fun m s σ => ∃ i : Nat, m + i = ls.length ∧ s.t 25 = .sl (ls.map encL) ∧ s.t 26 = .c (.int .i64 ls.length) ∧ s.t 27 = .c (.int .i64 i) ∧
  ((i = 0 ∧ s.t 6 = .c (.slice none 0 0) ∧ σ = Hp.empty) ∨ ∃ k, s.t 6 = .gl k ∧ σ = Hp.empty.setGr k (some ((50, 6), (ls.take i).flatten.map encBd)))) ls.length ?_ ?_
 ·refine ⟨0, by simp, ?_⟩
  simp only [zs, simprocAttr, -Int.reduceNatCast']
  refine ⟨by simp, ?_⟩
  rcases hv with ⟨h1, h2⟩ | ⟨k, h1, h2⟩
  ·exact .inl ⟨h1, h2⟩
  ·exact .inr ⟨k, h1, by rw [h2]; rfl⟩
 rintro m s σ ⟨i, hm, e25, e26, e27, hk⟩
 all_goals refine AW.sr (J2 e26 e27) ?_
 refine AW.seq_k fun K13 h13 => ?_
 refine AW.cond (b := decide (i < ls.length)) (by simp [ev]) (fun hc => ?_) (fun hc => ?_)
 ·refine AW.skip ?_
  simp only [zs, simprocAttr]
  all_goals apply_assumption
  have hi : i < ls.length := by simpa using hc
  have hg := getD_map (f := encL) hi
  have htk : ls.take (i + 1) = ls.take i ++ [ls[i]] := by rw [List.take_append_getElem]
  generalize ha : ls[i] = a at hg htk
  have hle : tot (ls.take (i + 1)) ≤ tot ls := tot_take ls (i + 1)
  rw [htk, tot_snoc] at hle
  have hw : IntKind.i64.wrap ((i : Int) + 1) = ((i + 1 : Nat) : Int) := by rw [wrap_small _ (by omega) (by omega)]; rfl
  have hfl : (ls.take i).flatten.length = tot (ls.take i) := flat_tot _
  refine AW.seq_k fun K14 h14 => ?_
  refine AW.block ?_   -- 3
  rcases hk with ⟨rfl, e6, rfl⟩ | ⟨k, e6, rfl⟩
  ·refine AW.sr (J5 e25 e27 hi hg @encL.eq_1) ?_
   refine AW.reg0 ?_
   iterate 2 refine S.one e6 ?_
   (refine S.g rfl rfl fun Y Z => ?_; simp only [zz, simprocAttr, -Int.reduceNatCast', tt, e6]; refine ⟨len_bd _, by unfold maxLen; omega, by unfold reach; omega, fun k2 hk2 => ?_⟩ <;> (refine Z _ _ ?_; clear Z Y))
   all_goals refine S.one e6 ?_
   all_goals (refine S.nil ?_; simp only [ze, simprocAttr, e6]; apply_assumption)
   all_goals have q1q := J4 e27 hw e25 e26
   all_goals refine AW.reg0 (S.rn q1q ?_)
   all_goals simp only [ze, simprocAttr, q1q]
   refine ⟨m - 1, by omega, 1, by omega, rfl, .inr ⟨k2, rfl, ?_⟩⟩
   rw [show ls.take 1 = [] ++ [a] from htk]; simp
  ·refine AW.sr (J5 e25 e27 hi hg @encL.eq_1) ?_
   refine AW.reg0 ?_
   iterate 2 refine S.one (J2 e6 hfl) ?_
   (refine S.g rfl rfl fun Y Z => ?_; simp only [zz, simprocAttr, -Int.reduceNatCast', tt, e6, hfl]; refine ⟨len_bd _, by unfold maxLen; omega, by unfold reach; omega, fun k2 hk2 => ?_⟩ <;> (refine Z _ _ ?_; clear Z Y))
   all_goals refine S.one (J2 e6 hfl) ?_
   all_goals (refine S.nil ?_; simp only [ze, simprocAttr, e6, hfl]; apply_assumption)
   all_goals have q2q := J4 e27 hw e25 e26
   all_goals refine AW.reg0 (S.rn q2q ?_)
   all_goals simp only [ze, simprocAttr, q2q]
   refine ⟨m - 1, by omega, i + 1, by omega, rfl, .inr ⟨k2, rfl, ?_⟩⟩
   rw [htk, List.flatten_append, List.map_append]; simp
 ·refine AW.exit ?_
  simp only [zs, simprocAttr]
  -- EXIT 2
  all_goals apply_assumption
  have hi : ls.length ≤ i := by simpa using hc
  rcases hk with ⟨rfl, e6, rfl⟩ | ⟨k, e6, rfl⟩
  ·exact absurd (List.eq_nil_of_length_eq_zero (by omega)) h0
  rw [List.take_of_length_le hi]
  all_goals refine AW.sr e6 ?_
  refine AW.freeze (k := k) (T := (50, 6)) (es := ls.flatten.map encBd) (by simp only [Hp.setGr_gr, if_true]) (AW.bare (AW.ret ?_))
  all_goals simp only [zs, simprocAttr, fzV, fz1, St.fz_t, St.fz_l]
theorem clone_grow (l : List Bd) (hl : ∀ b ∈ l, b.ev.attrs.length * 48 ≤ 140737488355328) (hn : l.length * 80 ≤ 140737488355328) : ACalls Tryz.prog 138 [.agg [.sl (l.map encBd)]] Hp.empty (fun v σ' => (l = [] ∧ v = .agg [.c (.slice none 0 0)] ∧ σ' = Hp.empty) ∨ ∃ k, l ≠ [] ∧ v = .agg [.gl k] ∧ σ' = hpB k l) := by
 refine ACalls.introR Tryz.call138 Tryz.func138 rfl Tryz.ntmps138 Tryz.results138 (by simp) ?_
 refine AW.sr trivial ?_
 refine AW.sr trivial ?_
 refine AW.seq_k fun K3 h3 => ?_
 refine AW.sr trivial ?_
 refine AW.block ?_   -- 0
 refine AW.loop (fun m s σ => ∃ i : Nat, m + i = l.length ∧ s.t 1 = .lp 1 0 ∧ s.l 1 = some [.sl (l.map encBd)] ∧ s.t 2 = .lp 2 0 ∧ s.l 2 = some [.c (.slice none 0 0)] ∧ s.t 7 = .sl (l.map encBd) ∧ s.t 8 = .c (.int .i64 l.length) ∧ s.t 9 = .c (.int .i64 i) ∧
  ((i = 0 ∧ s.t 3 = .c (.slice none 0 0) ∧ σ = Hp.empty) ∨ ∃ k, i ≠ 0 ∧ s.t 3 = .gl k ∧ σ = Hp.empty.setGr k (some ((50, 6), (l.take i).map encBd)))) l.length ?_ ?_
 ·refine ⟨0, by simp, ?_⟩
  simp only [zs, simprocAttr]
  simp
 rintro m s σ ⟨i, hm, e1, l1, e2, l2, e7, e8, e9, hk⟩
 refine AW.sr (J2 e9 e8) ?_
 refine AW.seq_k fun K6 h6 => ?_
 refine AW.cond (b := decide (i < l.length)) (by simp [ev]) (fun hc => ?_) (fun hc => ?_)
 ·refine AW.skip ?_
  simp only [zs, simprocAttr]
  all_goals apply_assumption
  have hi : i < l.length := by simpa using hc
  have hg := getD_map (f := encBd) hi
  have htk : l.take (i + 1) = l.take i ++ [l[i]] := by rw [List.take_append_getElem]
  have hmem := hl _ (List.getElem_mem hi)
  generalize ha : l[i] = a at hg htk hmem
  refine AW.seq_k fun K7 h7 => ?_
  refine AW.block ?_   -- 1
  refine AW.sr (J5 e7 e9 hi hg @encBd.eq_1) ?_
  rcases hk with ⟨rfl, e3, rfl⟩ | ⟨k, hi0, e3, rfl⟩
  ·skip
   refine AW.dv { sd := fun d => d == 5 } [(0,0),(1,0),(3,0),(2,1),(4,1),(5,2),(6,0),(7,2),(8,2),(9,0)] ?_
   have q1q := J2 e3 @encEv.eq_1
   iterate 3 refine D.one q1q ?_
   iterate 2 refine D.one q1q ?_
   (refine D.g rfl trivial rfl rfl fun Y Z => ?_; simp only [zz, simprocAttr, -Int.reduceNatCast', e3, encEv]; refine PCalls.eqto (clone_ev _ (by assumption)) ?_ <;> (refine Z _ _ ?_; clear Z Y))
   all_goals iterate 2 (refine D.g rfl trivial rfl rfl fun Y Z => ?_; simp only [zb, simprocAttr, -Int.reduceNatCast', tt, e3, encEv]; refine Z _ _ ?_; clear Z Y)
   all_goals have q2q := J2 e3 @encEv.eq_1
   all_goals (refine D.g rfl trivial rfl rfl fun Y Z => ?_; simp only [zz, simprocAttr, -Int.reduceNatCast', tt, q2q]; refine ⟨len_bd [a], by unfold maxLen; omega, by unfold reach; omega, fun k2 hk2 => ?_⟩ <;> (refine Z _ _ ?_; clear Z Y))
   all_goals refine D.one q2q ?_
   all_goals (refine D.nil ?_; apply_assumption)
   have hw : IntKind.i64.wrap (((0 : Nat) : Int) + 1) = ((0 + 1 : Nat) : Int) := by rw [wrap_small _ (by omega) (by omega)]; rfl
   all_goals have q3q := J8 e9 hw e1 e2 e7 e8 l1 l2
   all_goals refine AW.reg0 (S.rn q3q ?_)
   all_goals simp only [ze, simprocAttr, q3q]
   refine ⟨m - 1, by omega, 1, by omega, rfl, .inr ⟨k2, by omega, rfl, ?_⟩⟩
   rw [show l.take 1 = [] ++ [a] from htk]; rfl
  ·have htl : (l.take i).length = i := by rw [List.length_take]; omega
   refine AW.dv { sd := fun d => d == 5 } [(0,0),(1,0),(3,0),(2,1),(4,1),(5,2),(6,0),(7,2),(8,2),(9,0)] ?_
   have q4q := J3 e3 @encEv.eq_1 htl
   iterate 3 refine D.one q4q ?_
   iterate 2 refine D.one q4q ?_
   (refine D.g rfl trivial rfl rfl fun Y Z => ?_; simp only [zz, simprocAttr, -Int.reduceNatCast', e3, encEv, htl]; refine PCalls.eqto (clone_ev _ (by assumption)) ?_ <;> (refine Z _ _ ?_; clear Z Y))
   all_goals iterate 2 (refine D.g rfl trivial rfl rfl fun Y Z => ?_; simp only [zb, simprocAttr, -Int.reduceNatCast', tt, e3, encEv, htl]; refine Z _ _ ?_; clear Z Y)
   all_goals have q5q := J3 e3 @encEv.eq_1 htl
   all_goals (refine D.g rfl trivial rfl rfl fun Y Z => ?_; simp only [zz, simprocAttr, -Int.reduceNatCast', tt, q5q]; refine ⟨len_bd [a], by unfold maxLen; omega, by unfold reach; omega, fun k2 hk2 => ?_⟩ <;> (refine Z _ _ ?_; clear Z Y))
   all_goals refine D.one q5q ?_
   all_goals (refine D.nil ?_; apply_assumption)
   have hw : IntKind.i64.wrap ((i : Int) + 1) = ((i + 1 : Nat) : Int) := by rw [wrap_small _ (by omega) (by omega)]; rfl
   all_goals have q6q := J8 e9 hw e1 e2 e7 e8 l1 l2
   all_goals refine AW.reg0 (S.rn q6q ?_)
   all_goals simp only [ze, simprocAttr, q6q]
   refine ⟨m - 1, by omega, i + 1, by omega, rfl, .inr ⟨k2, by omega, rfl, ?_⟩⟩
   rw [htk, List.map_append]
   simp [encBd]
 ·refine AW.exit ?_
  simp only [zs, simprocAttr]
  -- EXIT 0
  -- BEHIND THE LOOP
  all_goals apply_assumption
  have hi : l.length ≤ i := by simpa using hc
  rcases hk with ⟨rfl, e3, rfl⟩ | ⟨k, hi0, e3, rfl⟩
  ·have h0 : l = [] := List.eq_nil_of_length_eq_zero (by omega)
   refine AW.sr (J3 e3 e2 l2) ?_
   refine AW.ret ?_
   simp only [zs, simprocAttr, qLoad, tt, cut, List.drop_zero, List.take_succ_cons, List.take_zero, e2]
   exact .inl h0
  ·rw [List.take_of_length_le hi]
   refine AW.sr (J3 e3 e2 l2) ?_
   refine AW.ret ?_
   simp only [zs, simprocAttr, qLoad, tt, cut, List.drop_zero, List.take_succ_cons, List.take_zero, e2]
   exact .inr ⟨k, fun e => by subst e; simp at hm; omega, rfl, rfl⟩
def noPart : V := .tup [.agg [.sl []], .c (.bool false)]
def mergeV (a b p : List Bd) : V := if partErr a ≠ 0 ∨ partErr b ≠ 0 then noPart else if partErr p ≠ 0 then noPart else .tup [.agg [.sl (p.map encBd)], .c (.bool true)]
theorem merge_gen (a b : List Bd) (ha : okP a) (hb : okP b) (hat : ∀ x ∈ a ++ b, x.ev.attrs.length * 48 ≤ 140737488355328) (G : List Bd → Prop) (hG : ∃ p, G p) (hne : a ++ b ≠ [])
  (hS : ¬ (partErr a ≠ 0 ∨ partErr b ≠ 0) → ∀ k, ACalls Tryz.prog 140 [.gl k, .fn (.func 141) [] []] (hpB k (a ++ b)) (fun v σ' => v = .tup [] ∧ ∃ p, okP p ∧ G p ∧ σ' = hpB k p)) :
  PCalls Tryz.prog 106 [.agg [.sl (a.map encBd)], .agg [.sl (b.map encBd)]] (fun v => ∃ p, G p ∧ v = mergeV a b p) := by
 refine PCalls.intro Tryz.call106 Tryz.func106 rfl Tryz.ntmps106 Tryz.results106 (by simp) ?_
 refine AW.sr trivial ?_
 refine AW.seq_k fun K2 h2 => ?_
 refine AW.seq_j (fun s' σ' => σ' = Hp.empty ∧ s'.t 2 = .lp 2 0 ∧ s'.l 2 = some [.sl (a.map encBd)] ∧ s'.t 3 = .lp 3 0 ∧ s'.l 3 = some [.sl (b.map encBd)] ∧ s'.t 4 = .lp 4 0 ∧ s'.l 4 = some [.c (.slice none 0 0)] ∧ s'.t 14 = .c (.bool (decide (partErr a ≠ 0 ∨ partErr b ≠ 0)))) ?_ ?_
 ·skip
  refine AW.reg0 ?_
  refine S.one trivial ?_
  (refine S.g rfl rfl fun Y Z => ?_; simp only [zz, simprocAttr, -Int.reduceNatCast']; refine PCalls.eqto (check_part a ha) ?_ <;> (refine Z _ _ ?_; clear Z Y))
  all_goals (refine S.sp trivial fun b a9 => ?_; cases b <;> (try exact nope a9))
  all_goals iterate 2 refine S.one trivial ?_
  all_goals (first | (refine S.y rfl rfl rfl rfl fun Y Z => ?_; simp only [zz, simprocAttr, -Int.reduceNatCast']; refine PCalls.eqto (check_part b hb) ?_ <;> (refine Z _ _ ?_; clear Z Y)) | ((first | refine S.x rfl rfl rfl rfl fun Y Z => ?_ | refine S.u rfl rfl rfl rfl fun Y Z => ?_); simp only [ze, simprocAttr, -Int.reduceNatCast']; refine Z _ _ ?_; clear Z Y))
  all_goals iterate 2 refine S.one trivial ?_
  all_goals refine S.nil ?_
  all_goals simp only [ze, simprocAttr]
  all_goals simp_all
  by_cases h0 : partErr b = 0 <;> simp [h0]
 rintro s σ ⟨rfl, e2, l2, e3, l3, e4, l4, e14⟩
 refine AW.cond (b := _) e14 (fun hc => ?_) (fun hc => ?_)
 ·have hx := of_decide_eq_true hc
  refine AW.sr (J2 e4 l4) ?_
  refine AW.ret ?_
  simp only [zs, simprocAttr, qLoad, tt, cut, List.drop_zero, List.take_succ_cons, List.take_zero, List.map, e4]
  obtain ⟨p0, hp0⟩ := hG
  refine ⟨p0, hp0, ?_⟩
  rw [mergeV, if_pos hx]; rfl
 ·have hx := of_decide_eq_false hc
  refine AW.skip ?_
  simp only [zs, simprocAttr]
  all_goals apply_assumption
  have hla : a.length ≤ 12 := by
   by_cases h : 12 < a.length
   ·exact absurd (.inl (by simp [partErr, h])) hx
   ·omega
  have hlb : b.length ≤ 12 := by
   by_cases h : 12 < b.length
   ·exact absurd (.inr (by simp [partErr, h])) hx
   ·omega
  have htot : tot [a, b] * 80 ≤ 140737488355328 := by simp only [tot, List.map_cons, List.map_nil, List.sum_cons, List.sum_nil]; omega
  have hlen : (a ++ b).length * 80 ≤ 140737488355328 := by rw [List.length_append]; omega
  have hfl : [a, b].flatten = a ++ b := by simp
  refine AW.seq_k fun K4 h4 => ?_
  refine AW.reg0 ?_
  iterate 4 refine S.one (J7 e2 l2 e3 l3 e4 l4 hfl) ?_
  (refine S.g rfl rfl fun Y Z => ?_; simp only [zb, simprocAttr, -Int.reduceNatCast', tt, e2, l2, e3, l3, e4, l4, hfl]; refine ⟨rfl, (by simp), ?_⟩ <;> (refine Z _ _ ?_; clear Z Y))
  all_goals have q1q := J7 e2 l2 e3 l3 e4 l4 hfl
  all_goals (refine S.g rfl rfl fun Y Z => ?_; simp only [zz, simprocAttr, -Int.reduceNatCast', q1q]; refine PCalls.eqto (concat_frozen [a, b] (by simp) (by simp) htot) ?_ <;> (refine Z _ _ ?_; clear Z Y))
  all_goals refine S.one q1q ?_
  all_goals have q2q := J7 e2 l2 e3 l3 e4 l4 hfl
  all_goals (refine S.g rfl rfl fun Y Z => ?_; simp only [zz, simprocAttr, -Int.reduceNatCast', q2q]; refine ((clone_grow (a ++ b) hat hlen).to fun v σ1 hv => ?_); obtain ⟨k, _, rfl, rfl⟩ := hv.resolve_left (fun h => hne h.1) <;> (refine Z _ _ ?_; clear Z Y))
  all_goals iterate 2 refine S.one q2q ?_
  all_goals (refine S.nil ?_; simp only [ze, simprocAttr, q2q]; apply_assumption)
  refine AW.seq_k fun K5 h5 => ?_
  all_goals refine AW.reg0 ?_
  all_goals iterate 2 refine S.one trivial ?_
  all_goals (refine S.g rfl rfl fun Y Z => ?_; simp only [zz, simprocAttr, -Int.reduceNatCast']; refine (hS hx k).to fun v σ1 hv => ?_; obtain ⟨rfl, p, hpo, hgp, rfl⟩ := hv <;> (refine Z _ _ ?_; clear Z Y))
  all_goals (refine S.nil ?_; simp only [ze, simprocAttr]; apply_assumption)
  refine AW.freeze (k := k) (T := (50, 6)) (es := p.map encBd) (by simp [hpB]) ?_
  have hem : (hpB k p).setGr k none = Hp.empty := by simp [hpB]
  rw [hem]
  refine AW.seq_j (fun s' σ' => σ' = Hp.empty ∧ s'.t 6 = .lp 6 0 ∧ s'.l 6 = some [.sl (p.map encBd)] ∧ s'.t 4 = .lp 4 0 ∧ s'.l 4 = some [.c (.slice none 0 0)] ∧ partErr p = 0) ?_ ?_
  ·refine AW.seq_j (fun s' σ' => σ' = Hp.empty ∧ s'.t 6 = .lp 6 0 ∧ s'.l 6 = some [.sl (p.map encBd)] ∧ s'.t 4 = .lp 4 0 ∧ s'.l 4 = some [.c (.slice none 0 0)] ∧ s'.t 29 = .c (.bool (partErr p != 0))) ?_ ?_
   ·skip
    refine AW.reg0 ?_
    refine S.one (J11 @St.fz_t @St.fz_l @fzV.eq_1 @fzV.eq_2 @fz1.eq_1 @fz1.eq_2 @Option.map_some.{0,0} @List.map.eq_1.{0,0} @List.map.eq_2.{0,0} e4 l4) ?_
    have q3q := J11 @St.fz_t @St.fz_l @fzV.eq_1 @fzV.eq_2 @fz1.eq_1 @fz1.eq_2 @Option.map_some.{0,0} @List.map.eq_1.{0,0} @List.map.eq_2.{0,0} e4 l4
    (refine S.g rfl rfl fun Y Z => ?_; simp only [zz, simprocAttr, -Int.reduceNatCast', q3q]; refine PCalls.eqto (check_part p hpo) ?_ <;> (refine Z _ _ ?_; clear Z Y))
    all_goals refine S.one q3q ?_
    all_goals refine S.nil ?_
    all_goals simp only [ze, simprocAttr, q3q]
   rintro s2 σ2 ⟨rfl, f6, k6, f4, k4, f29⟩
   refine AW.cond (b := partErr p != 0) f29 (fun hc2 => ?_) (fun hc2 => ?_)
   ·have hy : partErr p ≠ 0 := by simpa using hc2
    refine AW.sr (J2 f4 k4) ?_
    refine AW.ret ?_
    simp only [zs, simprocAttr, qLoad, tt, cut, List.drop_zero, List.take_succ_cons, List.take_zero, List.map, f4]
    refine ⟨p, hgp, ?_⟩
    rw [mergeV, if_neg hx, if_pos hy]; rfl
   ·have hy : partErr p = 0 := by simpa using hc2
    refine AW.skip ?_
    simp only [zs, simprocAttr]
    exact ⟨f6, k6, f4, k4, hy⟩
  rintro s2 σ2 ⟨rfl, f6, k6, f4, k4, hy⟩
  all_goals refine AW.sr (J4 f6 k6 f4 k4) ?_
  refine AW.ret ?_
  all_goals simp only [zs, simprocAttr, qLoad, tt, cut, List.drop_zero, List.take_succ_cons, List.take_zero, List.map, f4]
  refine ⟨p, hgp, ?_⟩
  rw [mergeV, if_neg hx, if_neg (fun e => e hy)]
def Sub (l0 l : List Bd) : Prop := l.length = l0.length ∧ ∀ x ∈ l, x ∈ l0
theorem Sub.refl (l : List Bd) : Sub l l := ⟨rfl, fun _ h => h⟩
theorem Sub.trans {a b c : List Bd} (h : Sub a b) (k : Sub b c) : Sub a c := ⟨k.1.trans h.1, fun x hx => h.2 x (k.2 x hx)⟩
theorem Sub.swap {l0 l : List Bd} {i j : Nat} {x y : Bd} (h : Sub l0 l) (hx : l[i]? = some x) (hy : l[j]? = some y) : Sub l0 ((l.set i y).set j x) := by
 refine ⟨by simp [h.1], fun z hz => ?_⟩
 rcases List.mem_or_eq_of_mem_set hz with hz | rfl
 ·rcases List.mem_or_eq_of_mem_set hz with hz | rfl
  ·exact h.2 z hz
  ·exact h.2 _ (List.mem_of_getElem? hy)
 ·exact h.2 _ (List.mem_of_getElem? hx)
def hpS (k : Nat) (l0 : List Bd) (v : V) (σ' : Hp) : Prop := v = .tup [] ∧ ∃ l', Sub l0 l' ∧ σ' = hpB k l'
theorem swapRange_weak (l0 : List Bd) (k a b n : Nat) (hab : a ≠ b) (ha : a + n ≤ l0.length) (hb : b + n ≤ l0.length) (hn : l0.length < 4611686018427387904) :
    ACalls Tryz.prog 204 [.gl k, .c (.int .i64 a), .c (.int .i64 b), .c (.int .i64 n), .fn (.func 141) [] []] (hpB k l0) (hpS k l0) := by
  refine ACalls.intro Tryz.call204 Tryz.func204 rfl Tryz.ntmps204 Tryz.results204 (by simp) ?_
  refine AW.sr trivial ?_
  refine AW.block ?_   -- 0
  refine AW.loop (fun m s σ => ∃ i l', m + i = n ∧ s.t 0 = .gl k ∧ s.t 1 = .c (.int .i64 a) ∧ s.t 2 = .c (.int .i64 b) ∧ s.t 3 = .c (.int .i64 n) ∧ s.t 10 = .c (.int .i64 (i : Nat)) ∧
    σ = hpB k l' ∧ Sub l0 l') n ?_ ?_
  · refine ⟨0, l0, by omega, ?_⟩
    simp only [zs, simprocAttr, -Int.reduceNatCast', -Int.reduceToNat]
    exact ⟨rfl, Sub.refl _⟩
  rintro m s σ ⟨i, l', hm, e0, e1, e2, e3, e10, rfl, hl'⟩
  refine AW.seq_k fun K2 h2 => ?_
  refine AW.sr (J2 e10 e3) ?_
  refine AW.cond (b := decide (i < n)) (by simp [ev]) (fun hc => ?_) (fun hc => ?_)
  · refine AW.skip ?_
    simp only [zs, simprocAttr]
    all_goals apply_assumption
    have hin : i < n := by simpa using hc
    have hj1 : a + i < l'.length := by rw [hl'.1]; omega
    have hj2 : b + i < l'.length := by rw [hl'.1]; omega
    have hg1 := getD_map (f := encBd) hj1
    have hg2 := getD_map (f := encBd) hj2
    have hx : l'[a+i]? = some l'[a+i] := List.getElem?_eq_getElem hj1
    have hy : l'[b+i]? = some l'[b+i] := List.getElem?_eq_getElem hj2
    generalize l'[a+i] = x at hg1 hx
    generalize l'[b+i] = y at hg2 hy
    have hsub := hl'.swap hx hy
    have hgs : ∀ v, ((l'.map encBd).set (a + i) v).getD (b + i) [] = encBd y := fun v => by
      rw [← hg2]; simp [List.getD, List.getElem?_set, hab]
    have hw1 : IntKind.i64.wrap ((a : Int) + i) = ((a + i : Nat) : Int) := by rw [wrap_small _ (by omega) (by omega)]; rfl
    have hw2 : IntKind.i64.wrap ((b : Int) + i) = ((b + i : Nat) : Int) := by rw [wrap_small _ (by omega) (by omega)]; rfl
    have hpb : hpB k l' = Hp.empty.setGr k (some ((50, 6), l'.map encBd)) := rfl
    rw [hpb]
    refine AW.seq_k fun K4 h4 => ?_
    refine AW.block ?_   -- 1
    refine AW.mono (Q := thenS (fun s' σ' => σ' = hpB k ((l'.set (a + i) y).set (b + i) x) ∧ s'.t 0 = .gl k ∧ s'.t 1 = .c (.int .i64 a) ∧ s'.t 2 = .c (.int .i64 b) ∧ s'.t 3 = .c (.int .i64 n) ∧ s'.t 10 = .c (.int .i64 (i : Nat))) (fun _ _ _ => False)) ?_ ?_
    · skip
      refine AW.draw2 (T := { sd := fun _ => false }) (fun _ _ h => by cases h) mixedO [(0, 0), (1, 0), (2, 0), (3, 0), (4, 0), (5, 0), (6, 0), (7, 0), (8, 0), (9, 0), (10, 0), (11, 0), (12, 0), (14, 0), (15, 0), (16, 0), (17, 0), (18, 0)] 13 19 [(20, 0), (21, 2), (22, 0), (23, 2)] #[true, true, true, true, true, true, true, true, true, true, true, true, true, false, true, true, true, true, true, false, false, false, false, false] rfl (by kernel_rfl) (by kernel_rfl) (by kernel_rfl) (by kernel_rfl) (by kernel_rfl) ?_
      all_goals have q1q := J12 e0 e1 e2 e3 e10 hj1 hj2 hg1 hg2 hgs hw1 (J3 hw2 @encBd.eq_1 @List.length_set.{0})
      all_goals iterate 18 refine D.one q1q ?_
      all_goals refine D.nil ⟨?_, ?_⟩
      all_goals iterate 6 refine D.one q1q ?_
      all_goals refine D.nil ?_
      all_goals simp only [ze, simprocAttr, q1q]
      all_goals simp [hpB, encBd, List.map_set]
    rintro e s4 σ4 hq
    cases e with
    | normal =>
      obtain ⟨rfl, q0, q1, q2, q3, q10⟩ := hq
      have hw : IntKind.i64.wrap ((i : Int) + 1) = ((i + 1 : Nat) : Int) := by rw [wrap_small _ (by omega) (by omega)]; rfl
      simp only [zs, simprocAttr]
      all_goals apply_assumption
      refine AW.reg0 (S.rn (J2 q10 hw) ?_)
      simp only [ze, simprocAttr, q10, hw]
      exact ⟨m - 1, by omega, i + 1, _, by omega, q0, q1, q2, q3, rfl, rfl, hsub⟩
    | _ => exact hq.elim
  · refine AW.exit ?_
    simp only [zs, simprocAttr]
    exact ⟨rfl, l', hl', rfl⟩
theorem rotate_weak (l0 : List Bd) (k a m0 b : Nat) (ham : a < m0) (hmb : m0 < b) (hb : b ≤ l0.length) (hn : l0.length < 4611686018427387904) :
  ACalls Tryz.prog 199 [.gl k, .c (.int .i64 a), .c (.int .i64 m0), .c (.int .i64 b), .fn (.func 141) [] []] (hpB k l0) (hpS k l0) := by
 refine ACalls.intro Tryz.call199 Tryz.func199 rfl Tryz.ntmps199 Tryz.results199 (by simp) ?_
 have hw1 : IntKind.i64.wrap ((m0 : Int) - a) = ((m0 - a : Nat) : Int) := by rw [wrap_small _ (by omega) (by omega)]; omega
 have hw2 : IntKind.i64.wrap ((b : Int) - m0) = ((b - m0 : Nat) : Int) := by rw [wrap_small _ (by omega) (by omega)]; omega
 refine AW.sr hw1 ?_
 refine AW.sr hw2 ?_
 refine AW.seq_k fun K3 h3 => ?_
 refine AW.block ?_   -- 0
 refine AW.loop (fun m s σ => ∃ i j l', m = i + j ∧ 0 < i ∧ 0 < j ∧ i ≤ m0 ∧ m0 + j ≤ l0.length ∧ s.t 0 = .gl k ∧ s.t 2 = .c (.int .i64 m0) ∧ s.t 4 = .fn (.func 141) [] [] ∧ s.t 10 = .c (.int .i64 (i : Nat)) ∧ s.t 11 = .c (.int .i64 (j : Nat)) ∧
  σ = hpB k l' ∧ Sub l0 l') (m0 - a + (b - m0)) ?_ ?_
 ·refine ⟨m0 - a, b - m0, l0, by omega, by omega, by omega, by omega, by omega, ?_⟩
  simp only [zs, simprocAttr]
  exact ⟨rfl, fun _ h => h⟩
 rintro m s σ ⟨i, j, l', hm, hi0, hj0, him, hjm, e0, e2, e4, e10, e11, rfl, hl'⟩
 have hw3 : IntKind.i64.wrap ((m0 : Int) - i) = ((m0 - i : Nat) : Int) := by rw [wrap_small _ (by omega) (by omega)]; omega
 refine AW.seq_k fun K4 h4 => ?_
 refine AW.sr (J2 e10 e11) ?_
 refine AW.cond (b := (i : Int) != j) (by simp [ev]) (fun hc => ?_) (fun hc => ?_)
 ·refine AW.skip ?_
  simp only [zs, simprocAttr]
  all_goals apply_assumption
  refine AW.block ?_   -- 1
  refine AW.sr (J2 e10 e11) ?_
  refine AW.cond (b := decide ((i : Int) > j)) (by simp [ev]) (fun hd => ?_) (fun hd => ?_)
  ·have hd := of_decide_eq_true hd
   have hw4 : IntKind.i64.wrap ((i : Int) - j) = ((i - j : Nat) : Int) := by rw [wrap_small _ (by omega) (by omega)]; omega
   refine AW.seq_k fun K7 h7 => ?_
   refine AW.reg0 ?_
   iterate 7 refine S.one (J6 e0 e2 e4 e10 e11 hw3) ?_
   have q1q := J6 e0 e2 e4 e10 e11 hw3
   (refine S.g rfl rfl fun Y Z => ?_; simp only [zz, simprocAttr, -Int.reduceNatCast', -Int.reduceToNat, q1q]; refine (swapRange_weak l' k (m0 - i) m0 j (by omega) (by rw [hl'.1]; omega) (by rw [hl'.1]; omega) (by rw [hl'.1]; omega)).to fun v σ1 hv => ?_; obtain ⟨rfl, l2, hl2, rfl⟩ := hv <;> (refine Z _ _ ?_; clear Z Y))
   all_goals (refine S.nil ?_; simp only [ze, simprocAttr, q1q]; apply_assumption)
   all_goals have q2q := J3 e10 e11 hw4
   all_goals refine AW.reg0 (S.rn q2q ?_)
   all_goals simp only [ze, simprocAttr, q2q]
   exact ⟨m - j, by omega, i - j, j, l2, by omega, by omega, by omega, by omega, by omega, e0, e2, e4, rfl, rfl, rfl, hl'.trans hl2⟩
  ·have hd := of_decide_eq_false hd
   have hne : i ≠ j := fun e => by subst e; simp at hc
   have hw5 : IntKind.i64.wrap ((m0 : Int) + j) = ((m0 + j : Nat) : Int) := by rw [wrap_small _ (by omega) (by omega)]; rfl
   have hw6 : IntKind.i64.wrap (((m0 + j : Nat) : Int) - i) = ((m0 + j - i : Nat) : Int) := by rw [wrap_small _ (by omega) (by omega)]; omega
   have hw4 : IntKind.i64.wrap ((j : Int) - i) = ((j - i : Nat) : Int) := by rw [wrap_small _ (by omega) (by omega)]; omega
   refine AW.seq_k fun K8 h8 => ?_
   refine AW.reg0 ?_
   iterate 11 refine S.one (J8 e0 e2 e4 e10 e11 hw3 hw5 hw6) ?_
   have q3q := J8 e0 e2 e4 e10 e11 hw3 hw5 hw6
   (refine S.g rfl rfl fun Y Z => ?_; simp only [zz, simprocAttr, -Int.reduceNatCast', -Int.reduceToNat, q3q]; refine (swapRange_weak l' k (m0 - i) (m0 + j - i) i (by omega) (by rw [hl'.1]; omega) (by rw [hl'.1]; omega) (by rw [hl'.1]; omega)).to fun v σ1 hv => ?_; obtain ⟨rfl, l2, hl2, rfl⟩ := hv <;> (refine Z _ _ ?_; clear Z Y))
   all_goals (refine S.nil ?_; simp only [ze, simprocAttr, q3q]; apply_assumption)
   all_goals have q4q := J3 e10 e11 hw4
   all_goals refine AW.reg0 (S.rn q4q ?_)
   all_goals simp only [ze, simprocAttr, q4q]
   exact ⟨m - i, by omega, i, j - i, l2, by omega, by omega, by omega, by omega, by omega, e0, e2, e4, rfl, rfl, rfl, hl'.trans hl2⟩
 ·refine AW.exit ?_
  simp only [zs, simprocAttr]
  all_goals apply_assumption
  have hij : (i : Int) = j := by simpa using hc
  have hij : i = j := by omega
  refine AW.reg0 ?_
  iterate 7 refine S.one (J5 e0 e2 e4 e10 hw3) ?_
  have q5q := J5 e0 e2 e4 e10 hw3
  (refine S.g rfl rfl fun Y Z => ?_; simp only [zz, simprocAttr, -Int.reduceNatCast', -Int.reduceToNat, q5q]; refine (swapRange_weak l' k (m0 - i) m0 i (by omega) (by rw [hl'.1]; omega) (by rw [hl'.1]; omega) (by rw [hl'.1]; omega)).to fun v σ1 hv => ?_; obtain ⟨rfl, l2, hl2, rfl⟩ := hv <;> (refine Z _ _ ?_; clear Z Y))
  all_goals refine S.nil ?_
  all_goals simp only [ze, simprocAttr, q5q]
  exact ⟨rfl, l2, hl'.trans hl2, rfl⟩
theorem half_u (n : Nat) (h : n < 9223372036854775808) : IntKind.u64.wrap (n : Int) = (n : Int) := by
 simp [IntKind.wrap, IntKind.signed, IntKind.bits]; omega
theorem half_s (n : Nat) : (n : Int).fdiv (2 ^ (min (Int.toNat 1) IntKind.u64.bits)) = ((n / 2 : Nat) : Int) := by
 have : (n : Int).fdiv 2 = (n : Int) / 2 := Int.fdiv_eq_ediv_of_nonneg _ (by decide)
 simp [IntKind.bits, this]
theorem get_bd {l : List Bd} {i : Nat} (h : i < l.length) : ∃ x, l[i]? = some x ∧ (l.map encBd).getD i [] = encBd x := ⟨l[i], List.getElem?_eq_getElem h, getD_map h⟩
theorem sym_one (l0 : List Bd) (k a m0 b : Nat) (ham : a + 1 = m0) (hmb : m0 < b) (hb : b ≤ l0.length) (hn : l0.length < 2147483648) :
    ACalls Tryz.prog 187 [.gl k, .c (.int .i64 a), .c (.int .i64 m0), .c (.int .i64 b), .fn (.func 141) [] []] (hpB k l0) (hpS k l0) := by
  refine ACalls.intro Tryz.call187 Tryz.func187 rfl Tryz.ntmps187 Tryz.results187 (by simp) ?_
  have hw1 : IntKind.i64.wrap ((m0 : Int) - a) = 1 := by rw [wrap_small _ (by omega) (by omega)]; omega
  refine AW.seq_k fun K1 h1 => ?_
  refine AW.sr hw1 ?_
  refine AW.cond (b := true) (by simp [ev]) (fun hc => ?_) (fun hc => by cases hc)
  all_goals refine AW.sr trivial ?_
  all_goals refine AW.sr trivial ?_
  refine AW.seq_j (fun s σ => ∃ i l', m0 ≤ i ∧ i ≤ b ∧ s.t 0 = .gl k ∧ s.t 1 = .c (.int .i64 a) ∧ s.t 10 = .c (.int .i64 (i : Nat)) ∧ σ = hpB k l' ∧ Sub l0 l') ?_ ?_
  · refine AW.block ?_   -- 0
    refine AW.loop (fun m s σ => ∃ i j, m = j - i ∧ m0 ≤ i ∧ i ≤ j ∧ j ≤ b ∧ s.t 0 = .gl k ∧ s.t 1 = .c (.int .i64 a) ∧ s.t 4 = .fn (.func 141) [] [] ∧ s.t 10 = .c (.int .i64 (i : Nat)) ∧ s.t 11 = .c (.int .i64 (j : Nat)) ∧ σ = hpB k l0) (b - m0) ?_ ?_
    · refine ⟨m0, b, rfl, by omega, by omega, by omega, ?_⟩
      simp only [zs, simprocAttr]
    rintro m s σ ⟨i, j, hm, hi, hij, hj, e0, e1, e4, e10, e11, rfl⟩
    refine AW.seq_k fun K5 h5 => ?_
    all_goals refine AW.sr (J2 e10 e11) ?_
    refine AW.cond (b := decide (i < j)) (by simp [ev]) (fun hc => ?_) (fun hc => ?_)
    · refine AW.skip ?_
      simp only [zs, simprocAttr]
      all_goals apply_assumption
      have hc := of_decide_eq_true hc
      have hw2 : IntKind.i64.wrap ((i : Int) + j) = ((i + j : Nat) : Int) := by rw [wrap_small _ (by omega) (by omega)]; rfl
      have hu := half_u (i + j) (by omega)
      have hs := half_s (i + j)
      have hw3 : IntKind.i64.wrap (((i + j) / 2 : Nat) : Int) = (((i + j) / 2 : Nat) : Int) := wrap_small _ (by omega) (by omega)
      have hh1 : i ≤ (i + j) / 2 := by omega
      have hh2 : (i + j) / 2 < j := by omega
      generalize (i + j) / 2 = h at *
      refine AW.block ?_   -- 1
      refine AW.sq (J6 e10 e11 hw2 hu hs hw3) ?_
      have hpb : (hpB k l0).gr k = some ((50, 6), l0.map encBd) := by simp [hpB]
      have hj1 : h < l0.length := by omega
      have hj2 : a < l0.length := by omega
      obtain ⟨x, hx, hg1⟩ := get_bd hj1
      obtain ⟨y, hy, hg2⟩ := get_bd hj2
      have hw4 : IntKind.i64.wrap ((h : Int) + 1) = ((h + 1 : Nat) : Int) := by rw [wrap_small _ (by omega) (by omega)]; rfl
      generalize hsg : hpB k l0 = σ0 at hpb ⊢
      refine AW.seq_j (fun s' σ' => σ' = σ0 ∧ s'.t 0 = .gl k ∧ s'.t 1 = .c (.int .i64 a) ∧ s'.t 4 = .fn (.func 141) [] [] ∧ s'.t 10 = .c (.int .i64 (i : Nat)) ∧ s'.t 11 = .c (.int .i64 (j : Nat)) ∧ s'.t 12 = .c (.int .i64 (h : Nat)) ∧ ∃ b, s'.t 50 = .c (.bool b)) ?_ ?_
      · skip
        refine AW.draw2 (T := { sd := fun _ => false }) (fun _ _ h => by cases h) mixedO [(0, 0), (1, 0), (2, 0), (3, 0), (5, 0), (6, 0), (7, 0)] 4 8 [(9, 2), (10, 0)] #[true, true, true, true, false, true, true, true, false, false, false] rfl (by kernel_rfl) (by kernel_rfl) (by kernel_rfl) (by kernel_rfl) (by kernel_rfl) ?_
        all_goals have q1q := J9 e0 e1 e4 hpb hj1 hj2 hg1 hg2 @encBd.eq_1
        all_goals iterate 7 refine D.one q1q ?_
        all_goals refine D.nil ⟨?_, ?_⟩
        all_goals iterate 2 refine D.one q1q ?_
        all_goals have q2q := J9 e0 e1 e4 hpb hj1 hj2 hg1 hg2 @encBd.eq_1
        all_goals (refine D.g rfl trivial rfl rfl fun Y Z => ?_; simp only [zz, simprocAttr, -Int.reduceNatCast', -Int.reduceToNat, q2q]; refine PCalls.eqto (less_spec x y) ?_ <;> (refine Z _ _ ?_; clear Z Y))
        all_goals refine D.one q2q ?_
        all_goals refine D.nil ?_
        all_goals simp only [ze, simprocAttr, q2q]
        all_goals exact ⟨e10, e11, _, rfl⟩
      rintro s3 σ3 ⟨rfl, g0, g1, g4, g10, g11, g12, b2, g50⟩
      refine AW.cond (b := b2) g50 (fun hd => ?_) (fun hd => ?_)
      · skip
        refine AW.reg0 (S.rn (J2 g12 hw4) ?_)
        simp only [ze, simprocAttr, g12, hw4]
        exact ⟨j - (h + 1), by omega, h + 1, j, rfl, by omega, by omega, hj, g0, g1, g4, rfl, g11⟩
      · skip
        refine AW.reg0 (S.rn g12 ?_)
        simp only [ze, simprocAttr, g12]
        exact ⟨h - i, by omega, i, h, rfl, by omega, by omega, by omega, g0, g1, g4, g10, rfl⟩
    · refine AW.exit ?_
      simp only [zs, simprocAttr]
      have hc := of_decide_eq_false hc
      exact ⟨i, l0, hi, by omega, e0, e1, e10, rfl, Sub.refl _⟩
  rintro s1 σ1 ⟨i, l1, hi, hib, f0, f1, f10, rfl, hs1⟩
  refine AW.seq_k fun K8 h8 => ?_
  all_goals refine AW.sr f1 ?_
  have hw5 : IntKind.i64.wrap ((i : Int) - 1) = ((i - 1 : Nat) : Int) := by rw [wrap_small _ (by omega) (by omega)]; omega
  refine AW.block ?_   -- 2
  refine AW.loop (fun m s σ => ∃ q l', m + q = i - 1 ∧ a ≤ q ∧ s.t 0 = .gl k ∧ s.t 10 = .c (.int .i64 (i : Nat)) ∧ s.t 13 = .c (.int .i64 (q : Nat)) ∧ σ = hpB k l' ∧ Sub l0 l') (i - 1 - a) ?_ ?_
  · refine ⟨a, l1, by omega, by omega, ?_⟩
    simp only [zs, simprocAttr]
    exact ⟨f0, f10, hs1⟩
  rintro m s σ ⟨q, l', hm, hq, e0, e10, e13, rfl, hs⟩
  refine AW.seq_k fun K10 h10 => ?_
  all_goals refine AW.sr (J3 e10 e13 hw5) ?_
  refine AW.cond (b := decide (q < i - 1)) (by simp [ev]) (fun hc => ?_) (fun hc => ?_)
  · refine AW.skip ?_
    simp only [zs, simprocAttr]
    all_goals apply_assumption
    have hc := of_decide_eq_true hc
    have hw : IntKind.i64.wrap ((q : Int) + 1) = ((q + 1 : Nat) : Int) := by rw [wrap_small _ (by omega) (by omega)]; rfl
    have hl1 := hs.1
    have hj1 : q < l'.length := by omega
    have hj2 : q + 1 < l'.length := by omega
    obtain ⟨x, hx, hg1⟩ := get_bd hj1
    obtain ⟨y, hy, hg2⟩ := get_bd hj2
    have hsub := hs.swap hx hy
    have hgs : ∀ v, ((l'.map encBd).set q v).getD (q + 1) [] = encBd y := fun v => by
      rw [← hg2]; simp [List.getD, List.getElem?_set]
    have hpb : hpB k l' = Hp.empty.setGr k (some ((50, 6), l'.map encBd)) := rfl
    rw [hpb]
    refine AW.seq_k fun K12 h12 => ?_
    refine AW.block ?_   -- 3
    refine AW.mono (Q := thenS (fun s' σ' => σ' = hpB k ((l'.set q y).set (q + 1) x) ∧ s'.t 0 = .gl k ∧ s'.t 10 = .c (.int .i64 (i : Nat)) ∧ s'.t 13 = .c (.int .i64 (q : Nat))) (fun _ _ _ => False)) ?_ ?_
    · skip
      refine AW.draw2 (T := { sd := fun _ => false }) (fun _ _ h => by cases h) mixedO [(0, 0), (1, 0), (2, 0), (3, 0), (4, 0), (5, 0), (6, 0), (7, 0), (8, 0), (10, 0), (11, 0), (12, 0)] 9 13 [(14, 0), (15, 2), (16, 0), (17, 2)] #[true, true, true, true, true, true, true, true, true, false, true, true, true, false, false, false, false, false] rfl (by kernel_rfl) (by kernel_rfl) (by kernel_rfl) (by kernel_rfl) (by kernel_rfl) ?_
      all_goals have q3q := J11 e0 e10 e13 hj1 hj2 hg1 hg2 hgs hw @encBd.eq_1 @List.length_set.{0}
      all_goals iterate 12 refine D.one q3q ?_
      all_goals refine D.nil ⟨?_, ?_⟩
      all_goals iterate 6 refine D.one q3q ?_
      all_goals refine D.nil ?_
      all_goals simp only [ze, simprocAttr, q3q]
      all_goals simp [hpB, encBd, List.map_set]
    rintro e s4 σ4 hq
    cases e with
    | normal =>
      obtain ⟨rfl, q0, q10, q13⟩ := hq
      simp only [zs, simprocAttr]
      all_goals apply_assumption
      refine AW.reg0 (S.rn (J2 q13 hw) ?_)
      simp only [ze, simprocAttr, q13, hw]
      exact ⟨m - 1, by omega, q + 1, _, by omega, by omega, q0, q10, rfl, rfl, hsub⟩
    | _ => exact hq.elim
  · refine AW.exit ?_
    simp only [zs, simprocAttr]
    all_goals apply_assumption
    refine AW.ret ?_
    simp only [zs, simprocAttr]
    exact ⟨rfl, l', hs, rfl⟩
theorem sym_two (l0 : List Bd) (k a m0 b : Nat) (ham : a + 1 < m0) (hmb : m0 + 1 = b) (hb : b ≤ l0.length) (hn : l0.length < 2147483648) :
    ACalls Tryz.prog 187 [.gl k, .c (.int .i64 a), .c (.int .i64 m0), .c (.int .i64 b), .fn (.func 141) [] []] (hpB k l0) (hpS k l0) := by
  refine ACalls.intro Tryz.call187 Tryz.func187 rfl Tryz.ntmps187 Tryz.results187 (by simp) ?_
  have hw1 : IntKind.i64.wrap ((m0 : Int) - a) = ((m0 - a : Nat) : Int) := by rw [wrap_small _ (by omega) (by omega)]; omega
  have hw2 : IntKind.i64.wrap ((b : Int) - m0) = 1 := by rw [wrap_small _ (by omega) (by omega)]; omega
  have h1 : (((m0 - a : Nat) : Int) == 1) = false := by simp; omega
  refine AW.seq_k fun K1 h1 => ?_
  refine AW.sr (J2 hw1 h1) ?_
  refine AW.cond (b := false) (by simp [ev]; try omega) (fun hc => by cases hc) (fun hc => AW.skip ?_)
  all_goals simp only [zs, simprocAttr]
  all_goals apply_assumption
  refine AW.seq_k fun K3 h3 => ?_
  all_goals refine AW.sr hw2 ?_
  refine AW.cond (b := true) (by simp [ev]) (fun hc => ?_) (fun hc => by cases hc)
  all_goals refine AW.sr trivial ?_
  all_goals refine AW.sr trivial ?_
  refine AW.seq_j (fun s σ => ∃ i l', a ≤ i ∧ i ≤ m0 ∧ s.t 0 = .gl k ∧ s.t 2 = .c (.int .i64 m0) ∧ s.t 14 = .c (.int .i64 (i : Nat)) ∧ σ = hpB k l' ∧ Sub l0 l') ?_ ?_
  · refine AW.block ?_   -- 0
    refine AW.loop (fun m s σ => ∃ i j, m = j - i ∧ a ≤ i ∧ i ≤ j ∧ j ≤ m0 ∧ s.t 0 = .gl k ∧ s.t 2 = .c (.int .i64 m0) ∧ s.t 4 = .fn (.func 141) [] [] ∧ s.t 14 = .c (.int .i64 (i : Nat)) ∧ s.t 15 = .c (.int .i64 (j : Nat)) ∧ σ = hpB k l0) (m0 - a) ?_ ?_
    · refine ⟨a, m0, rfl, by omega, by omega, by omega, ?_⟩
      simp only [zs, simprocAttr]
    rintro m s σ ⟨i, j, hm, hi, hij, hj, e0, e2, e4, e10, e11, rfl⟩
    refine AW.seq_k fun K7 h7 => ?_
    all_goals refine AW.sr (J2 e10 e11) ?_
    refine AW.cond (b := decide (i < j)) (by simp [ev]) (fun hc => ?_) (fun hc => ?_)
    · refine AW.skip ?_
      simp only [zs, simprocAttr]
      all_goals apply_assumption
      have hc := of_decide_eq_true hc
      have hw2 : IntKind.i64.wrap ((i : Int) + j) = ((i + j : Nat) : Int) := by rw [wrap_small _ (by omega) (by omega)]; rfl
      have hu := half_u (i + j) (by omega)
      have hs := half_s (i + j)
      have hw3 : IntKind.i64.wrap (((i + j) / 2 : Nat) : Int) = (((i + j) / 2 : Nat) : Int) := wrap_small _ (by omega) (by omega)
      have hh1 : i ≤ (i + j) / 2 := by omega
      have hh2 : (i + j) / 2 < j := by omega
      generalize (i + j) / 2 = h at *
      refine AW.block ?_   -- 1
      refine AW.seq_k fun K9 h9 => ?_
      refine AW.reg0 ?_
      iterate 7 (refine S.g rfl rfl fun Y Z => ?_; simp only [zz, reduceIte, Nat.reduceEqDiff, Nat.reduceAdd, tt, e10, e11, hw2, hu, hs, hw3, Int.reduceLE]; refine Z _ _ ?_; clear Z Y)
      all_goals (refine S.nil ?_; simp only [ze, reduceIte, Nat.reduceEqDiff, Nat.reduceLT, Nat.reduceLeDiff, Nat.reduceAdd, reduceCtorEq, Nat.reduceMul, e10, e11, hw2, hu, hs, hw3, Int.reduceLE]; apply_assumption)
      have hpb : (hpB k l0).gr k = some ((50, 6), l0.map encBd) := by simp [hpB]
      have hj1 : m0 < l0.length := by omega
      have hj2 : h < l0.length := by omega
      obtain ⟨x, hx, hg1⟩ := get_bd hj1
      obtain ⟨y, hy, hg2⟩ := get_bd hj2
      have hw4 : IntKind.i64.wrap ((h : Int) + 1) = ((h + 1 : Nat) : Int) := by rw [wrap_small _ (by omega) (by omega)]; rfl
      generalize hsg : hpB k l0 = σ0 at hpb ⊢
      refine AW.seq_j (fun s' σ' => σ' = σ0 ∧ s'.t 0 = .gl k ∧ s'.t 2 = .c (.int .i64 m0) ∧ s'.t 4 = .fn (.func 141) [] [] ∧ s'.t 14 = .c (.int .i64 (i : Nat)) ∧ s'.t 15 = .c (.int .i64 (j : Nat)) ∧ s'.t 16 = .c (.int .i64 (h : Nat)) ∧ ∃ b, s'.t 103 = .c (.bool b)) ?_ ?_
      · skip
        refine AW.draw2 (T := { sd := fun _ => false }) (fun _ _ h => by cases h) mixedO [(0, 0), (1, 0), (2, 0), (3, 0), (5, 0), (6, 0), (7, 0)] 4 8 [(9, 2), (10, 0), (11, 0)] #[true, true, true, true, false, true, true, true, false, false, false, false] rfl (by kernel_rfl) (by kernel_rfl) (by kernel_rfl) (by kernel_rfl) (by kernel_rfl) ?_
        all_goals iterate 7 (refine D.g rfl trivial rfl rfl fun Y Z => ?_; simp only [zz, reduceIte, Nat.reduceEqDiff, Nat.reduceLT, Nat.reduceLeDiff, Nat.reduceAdd, reduceCtorEq, Nat.reduceMul, tt, e0, e2, e4, hpb, hj1, hj2, hg1, hg2, encBd]; refine Z _ _ ?_; clear Z Y)
        all_goals refine D.nil ⟨?_, ?_⟩
        all_goals iterate 2 (refine D.g rfl trivial rfl rfl fun Y Z => ?_; simp only [zz, reduceIte, Nat.reduceEqDiff, Nat.reduceLT, Nat.reduceLeDiff, Nat.reduceAdd, reduceCtorEq, Nat.reduceMul, tt, e0, e2, e4, hpb, hj1, hj2, hg1, hg2, encBd]; refine Z _ _ ?_; clear Z Y)
        all_goals have q1q := J9 e0 e2 e4 hpb hj1 hj2 hg1 hg2 @encBd.eq_1
        all_goals (refine D.g rfl trivial rfl rfl fun Y Z => ?_; simp only [zz, simprocAttr, -Int.reduceNatCast', q1q]; refine PCalls.eqto (less_spec x y) ?_ <;> (refine Z _ _ ?_; clear Z Y))
        all_goals iterate 2 refine D.one q1q ?_
        all_goals refine D.nil ?_
        all_goals simp only [ze, simprocAttr, q1q]
        all_goals exact ⟨e10, e11, _, rfl⟩
      rintro s3 σ3 ⟨rfl, g0, g2, g4, g10, g11, g12, b2, g50⟩
      refine AW.cond (b := b2) g50 (fun hd => ?_) (fun hd => ?_)
      · skip
        refine AW.reg0 (S.rn (J2 g12 hw4) ?_)
        simp only [ze, simprocAttr, g12, hw4]
        exact ⟨j - (h + 1), by omega, h + 1, j, rfl, by omega, by omega, hj, g0, g2, g4, rfl, g11⟩
      · skip
        refine AW.reg0 (S.rn g12 ?_)
        simp only [ze, simprocAttr, g12]
        exact ⟨h - i, by omega, i, h, rfl, by omega, by omega, by omega, g0, g2, g4, g10, rfl⟩
    · refine AW.exit ?_
      simp only [zs, simprocAttr]
      have hc := of_decide_eq_false hc
      exact ⟨i, l0, hi, by omega, e0, e2, e10, rfl, Sub.refl _⟩
  rintro s1 σ1 ⟨i, l1, hi, hib, f0, f2, f10, rfl, hs1⟩
  refine AW.seq_k fun K10 h10 => ?_
  all_goals refine AW.sr f2 ?_
  refine AW.block ?_   -- 2
  refine AW.loop (fun m s σ => ∃ q l', m = q ∧ i ≤ q ∧ q ≤ m0 ∧ s.t 0 = .gl k ∧ s.t 14 = .c (.int .i64 (i : Nat)) ∧ s.t 17 = .c (.int .i64 (q : Nat)) ∧ σ = hpB k l' ∧ Sub l0 l') m0 ?_ ?_
  · refine ⟨m0, l1, rfl, by omega, by omega, ?_⟩
    simp only [zs, simprocAttr]
    exact ⟨f0, f10, hs1⟩
  rintro m s σ ⟨q, l', rfl, hq1, hq2, e0, e10, e13, rfl, hs⟩
  refine AW.seq_k fun K12 h12 => ?_
  all_goals refine AW.sr (J2 e10 e13) ?_
  refine AW.cond (b := decide ((m : Int) > i)) (by simp [ev]) (fun hc => ?_) (fun hc => ?_)
  · refine AW.skip ?_
    simp only [zs, simprocAttr]
    all_goals apply_assumption
    have hc := of_decide_eq_true hc
    have hw : IntKind.i64.wrap ((m : Int) - 1) = ((m - 1 : Nat) : Int) := by rw [wrap_small _ (by omega) (by omega)]; omega
    have hl1 := hs.1
    have hj1 : m < l'.length := by omega
    have hj2 : m - 1 < l'.length := by omega
    obtain ⟨x, hx, hg1⟩ := get_bd hj1
    obtain ⟨y, hy, hg2⟩ := get_bd hj2
    have hsub := hs.swap hx hy
    have hgs : ∀ v, ((l'.map encBd).set m v).getD (m - 1) [] = encBd y := fun v => by
      rw [← hg2]; simp [List.getD, List.getElem?_set, show m ≠ m - 1 by omega]
    have hpb : hpB k l' = Hp.empty.setGr k (some ((50, 6), l'.map encBd)) := rfl
    rw [hpb]
    refine AW.seq_k fun K14 h14 => ?_
    refine AW.block ?_   -- 3
    refine AW.mono (Q := thenS (fun s' σ' => σ' = hpB k ((l'.set m y).set (m - 1) x) ∧ s'.t 0 = .gl k ∧ s'.t 14 = .c (.int .i64 (i : Nat)) ∧ s'.t 17 = .c (.int .i64 (m : Nat))) (fun _ _ _ => False)) ?_ ?_
    · skip
      refine AW.draw2 (T := { sd := fun _ => false }) (fun _ _ h => by cases h) mixedO [(0, 0), (1, 0), (2, 0), (3, 0), (4, 0), (5, 0), (6, 0), (7, 0), (8, 0), (10, 0), (11, 0), (12, 0)] 9 13 [(14, 0), (15, 2), (16, 0), (17, 2)] #[true, true, true, true, true, true, true, true, true, false, true, true, true, false, false, false, false, false] rfl (by kernel_rfl) (by kernel_rfl) (by kernel_rfl) (by kernel_rfl) (by kernel_rfl) ?_
      all_goals have q2q := J11 e0 e10 e13 hj1 hj2 hg1 hg2 hgs hw @encBd.eq_1 @List.length_set.{0}
      all_goals iterate 12 refine D.one q2q ?_
      all_goals refine D.nil ⟨?_, ?_⟩
      all_goals iterate 6 refine D.one q2q ?_
      all_goals refine D.nil ?_
      all_goals simp only [ze, simprocAttr, q2q]
      all_goals simp [hpB, encBd, List.map_set]
    rintro e s4 σ4 hq
    cases e with
    | normal =>
      obtain ⟨rfl, q0, q10, q13⟩ := hq
      simp only [zs, simprocAttr]
      all_goals apply_assumption
      refine AW.reg0 (S.rn (J2 q13 hw) ?_)
      simp only [ze, simprocAttr, q13, hw]
      exact ⟨m - 1, by omega, m - 1, _, rfl, by omega, by omega, q0, q10, rfl, rfl, hsub⟩
    | _ => exact hq.elim
  · refine AW.exit ?_
    simp only [zs, simprocAttr]
    all_goals apply_assumption
    refine AW.ret ?_
    simp only [zs, simprocAttr]
    exact ⟨rfl, l', hs, rfl⟩
theorem sym_weak (k : Nat) : ∀ (d : Nat) (l0 : List Bd) (a m0 b : Nat), b - a ≤ d → a < m0 → m0 < b → b ≤ l0.length → l0.length < 2147483648 →
  ACalls Tryz.prog 187 [.gl k, .c (.int .i64 a), .c (.int .i64 m0), .c (.int .i64 b), .fn (.func 141) [] []] (hpB k l0) (hpS k l0) := by
 intro d
 induction d with
 | zero => intro l0 a m0 b hd h1 h2; omega
 | succ d ih =>
 intro l0 a m0 b hd ham hmb hb hn
 by_cases hA : a + 1 = m0
 ·exact sym_one l0 k a m0 b hA hmb hb hn
 by_cases hB : m0 + 1 = b
 ·exact sym_two l0 k a m0 b (by omega) hB hb hn
 refine ACalls.intro Tryz.call187 Tryz.func187 rfl Tryz.ntmps187 Tryz.results187 (by simp) ?_
 have hw1 : IntKind.i64.wrap ((m0 : Int) - a) = ((m0 - a : Nat) : Int) := by rw [wrap_small _ (by omega) (by omega)]; omega
 have hw2 : IntKind.i64.wrap ((b : Int) - m0) = ((b - m0 : Nat) : Int) := by rw [wrap_small _ (by omega) (by omega)]; omega
 have h1 : (((m0 - a : Nat) : Int) == 1) = false := by simp; omega
 have h2 : (((b - m0 : Nat) : Int) == 1) = false := by simp; omega
 have hw4 : IntKind.i64.wrap ((a : Int) + b) = ((a + b : Nat) : Int) := by rw [wrap_small _ (by omega) (by omega)]; rfl
 have hu := half_u (a + b) (by omega)
 have hs := half_s (a + b)
 have hw5 : IntKind.i64.wrap (((a + b) / 2 : Nat) : Int) = (((a + b) / 2 : Nat) : Int) := wrap_small _ (by omega) (by omega)
 have hm1 : a + b ≤ 2 * ((a + b) / 2) + 1 := by omega
 have hm2 : 2 * ((a + b) / 2) ≤ a + b := by omega
 generalize (a + b) / 2 = mid at *
 have hw6 : IntKind.i64.wrap ((mid : Int) + m0) = ((mid + m0 : Nat) : Int) := by rw [wrap_small _ (by omega) (by omega)]; rfl
 obtain ⟨n, hnn⟩ : ∃ n, n = mid + m0 := ⟨_, rfl⟩
 rw [← hnn] at hw6
 have hw7 : IntKind.i64.wrap ((n : Int) - 1) = ((n - 1 : Nat) : Int) := by rw [wrap_small _ (by omega) (by omega)]; omega
 refine AW.seq_k fun K1 h1 => ?_
 all_goals refine AW.sr (J2 hw1 h1) ?_
 refine AW.cond (b := false) (by simp [ev]; try omega) (fun hc => by cases hc) (fun hc => AW.skip ?_)
 all_goals simp only [zs, simprocAttr]
 all_goals apply_assumption
 refine AW.seq_k fun K3 h3 => ?_
 all_goals refine AW.sr (J2 hw2 h2) ?_
 refine AW.cond (b := false) (by simp [ev]; try omega) (fun hc => by cases hc) (fun hc => AW.skip ?_)
 all_goals simp only [zs, simprocAttr]
 all_goals apply_assumption
 refine AW.seq_k fun K5 h5 => ?_
 all_goals refine AW.reg0 ?_
 all_goals iterate 7 (refine S.g rfl rfl fun Y Z => ?_; simp only [zz, reduceIte, Nat.reduceEqDiff, Nat.reduceAdd, tt, hw4, hu, hs, hw5, Int.reduceLE]; refine Z _ _ ?_; clear Z Y)
 all_goals (refine S.nil ?_; simp only [ze, reduceIte, Nat.reduceEqDiff, Nat.reduceLT, Nat.reduceLeDiff, Nat.reduceAdd, reduceCtorEq, Nat.reduceMul, hw4, hu, hs, hw5, Int.reduceLE]; apply_assumption)
 all_goals refine AW.sq hw6 ?_
 all_goals refine AW.sr trivial ?_
 refine AW.seq_j (fun s σ => ∃ st r, a ≤ st ∧ st ≤ r ∧ r ≤ mid ∧ r ≤ m0 ∧ n ≤ b + st ∧ s.t 0 = .gl k ∧ s.t 1 = .c (.int .i64 a) ∧ s.t 2 = .c (.int .i64 m0) ∧ s.t 3 = .c (.int .i64 b) ∧ s.t 4 = .fn (.func 141) [] [] ∧ s.t 18 = .c (.int .i64 mid) ∧ s.t 19 = .c (.int .i64 n) ∧
  s.t 20 = .c (.int .i64 (st : Nat)) ∧ s.t 21 = .c (.int .i64 (r : Nat)) ∧ σ = hpB k l0) ?_ ?_
 ·refine AW.sq trivial ?_
  refine AW.cond (b := decide ((m0 : Int) > mid)) (by simp [ev]) (fun hc => ?_) (fun hc => ?_)
  ·have hc := of_decide_eq_true hc
   have hw8 : IntKind.i64.wrap ((n : Int) - b) = ((n - b : Nat) : Int) := by rw [wrap_small _ (by omega) (by omega)]; omega
   refine AW.sq hw8 ?_
   all_goals refine AW.reg0 (S.rn trivial ?_)
   all_goals simp only [ze, simprocAttr]
   exact ⟨n - b, mid, by omega, by omega, by omega, by omega, by omega, rfl, rfl⟩
  ·have hc := of_decide_eq_false hc
   refine AW.sr trivial ?_
   refine AW.reg0 (S.rn trivial ?_)
   simp only [ze, simprocAttr]
   exact ⟨a, m0, by omega, by omega, by omega, by omega, by omega, rfl, rfl⟩
 rintro s0 σ0 ⟨st0, r0, hg1, hg2, hg3, hg4, hg5, g0, g1, g2, g3, g4, g18, g19, g20, g21, rfl⟩
 all_goals refine AW.sr (J2 g19 hw7) ?_
 refine AW.seq_j (fun s σ => ∃ st l', a ≤ st ∧ st ≤ mid ∧ st ≤ m0 ∧ n ≤ b + st ∧ s.t 0 = .gl k ∧ s.t 1 = .c (.int .i64 a) ∧ s.t 2 = .c (.int .i64 m0) ∧ s.t 3 = .c (.int .i64 b) ∧ s.t 4 = .fn (.func 141) [] [] ∧ s.t 18 = .c (.int .i64 mid) ∧ s.t 19 = .c (.int .i64 n) ∧
  s.t 20 = .c (.int .i64 (st : Nat)) ∧ σ = hpB k l' ∧ Sub l0 l') ?_ ?_
 ·refine AW.block ?_   -- 8
  refine AW.loop (fun m s σ => ∃ st r, m = r - st ∧ a ≤ st ∧ st ≤ r ∧ r ≤ mid ∧ r ≤ m0 ∧ n ≤ b + st ∧ s.t 0 = .gl k ∧ s.t 1 = .c (.int .i64 a) ∧ s.t 2 = .c (.int .i64 m0) ∧ s.t 3 = .c (.int .i64 b) ∧ s.t 4 = .fn (.func 141) [] [] ∧ s.t 18 = .c (.int .i64 mid) ∧ s.t 19 = .c (.int .i64 n) ∧
   s.t 20 = .c (.int .i64 (st : Nat)) ∧ s.t 21 = .c (.int .i64 (r : Nat)) ∧ s.t 22 = .c (.int .i64 ((n - 1 : Nat) : Int)) ∧ σ = hpB k l0) (r0 - st0) ?_ ?_
  ·refine ⟨st0, r0, rfl, hg1, hg2, hg3, hg4, hg5, ?_⟩
   simp only [zs, simprocAttr]
   exact ⟨g0, g1, g2, g3, g4, g18, g19, g20, g21⟩
  rintro m s σ ⟨i, j, hm, hi, hij, hj, hj', hnb, e0, e1, e2, e3, e4, e18, e19, e10, e11, e22, rfl⟩
  refine AW.seq_k fun K12 h12 => ?_
  refine AW.sr (J2 e10 e11) ?_
  refine AW.cond (b := decide (i < j)) (by simp [ev]) (fun hc => ?_) (fun hc => ?_)
  ·refine AW.skip ?_
   simp only [zs, simprocAttr]
   all_goals apply_assumption
   have hc := of_decide_eq_true hc
   have hw2 : IntKind.i64.wrap ((i : Int) + j) = ((i + j : Nat) : Int) := by rw [wrap_small _ (by omega) (by omega)]; rfl
   have hu := half_u (i + j) (by omega)
   have hs := half_s (i + j)
   have hw3 : IntKind.i64.wrap (((i + j) / 2 : Nat) : Int) = (((i + j) / 2 : Nat) : Int) := wrap_small _ (by omega) (by omega)
   have hh1 : i ≤ (i + j) / 2 := by omega
   have hh2 : (i + j) / 2 < j := by omega
   generalize (i + j) / 2 = h at *
   refine AW.block ?_   -- 1
   refine AW.seq_k fun K14 h14 => ?_
   refine AW.reg0 ?_
   iterate 7 (refine S.g rfl rfl fun Y Z => ?_; simp only [zz, reduceIte, Nat.reduceEqDiff, Nat.reduceAdd, tt, e10, e11, hw2, hu, hs, hw3, Int.reduceLE]; refine Z _ _ ?_; clear Z Y)
   all_goals (refine S.nil ?_; simp only [ze, reduceIte, Nat.reduceEqDiff, Nat.reduceLT, Nat.reduceLeDiff, Nat.reduceAdd, reduceCtorEq, Nat.reduceMul, e10, e11, hw2, hu, hs, hw3, Int.reduceLE]; apply_assumption)
   have hpb : (hpB k l0).gr k = some ((50, 6), l0.map encBd) := by simp [hpB]
   have hw8 : IntKind.i64.wrap (((n - 1 : Nat) : Int) - h) = ((n - 1 - h : Nat) : Int) := by rw [wrap_small _ (by omega) (by omega)]; omega
   have hj1 : n - 1 - h < l0.length := by omega
   have hj2 : h < l0.length := by omega
   obtain ⟨x, hx, hg1⟩ := get_bd hj1
   obtain ⟨y, hy, hg2⟩ := get_bd hj2
   have hw4 : IntKind.i64.wrap ((h : Int) + 1) = ((h + 1 : Nat) : Int) := by rw [wrap_small _ (by omega) (by omega)]; rfl
   generalize hsg : hpB k l0 = σ0 at hpb ⊢
   refine AW.seq_j (fun s' σ' => σ' = σ0 ∧ s'.t 0 = .gl k ∧ s'.t 1 = .c (.int .i64 a) ∧ s'.t 2 = .c (.int .i64 m0) ∧ s'.t 3 = .c (.int .i64 b) ∧ s'.t 4 = .fn (.func 141) [] [] ∧ s'.t 18 = .c (.int .i64 mid) ∧ s'.t 19 = .c (.int .i64 n) ∧ s'.t 20 = .c (.int .i64 (i : Nat)) ∧ s'.t 21 = .c (.int .i64 (j : Nat)) ∧ s'.t 22 = .c (.int .i64 ((n - 1 : Nat) : Int)) ∧ s'.t 23 = .c (.int .i64 (h : Nat)) ∧ ∃ b, s'.t 171 = .c (.bool b)) ?_ ?_
   ·skip
    refine AW.draw2 (T := { sd := fun _ => false }) (fun _ _ h => by cases h) mixedO [(0, 0), (1, 0), (2, 0), (3, 0), (4, 0), (5, 0), (7, 0), (8, 0), (9, 0)] 6 10 [(11, 2), (12, 0), (13, 0)] #[true, true, true, true, true, true, false, true, true, true, false, false, false, false] rfl (by kernel_rfl) (by kernel_rfl) (by kernel_rfl) (by kernel_rfl) (by kernel_rfl) ?_
    all_goals iterate 9 (refine D.g rfl trivial rfl rfl fun Y Z => ?_; simp only [zz, reduceIte, Nat.reduceEqDiff, Nat.reduceLT, Nat.reduceLeDiff, Nat.reduceAdd, reduceCtorEq, Nat.reduceMul, tt, e0, e22, e4, hpb, hj1, hj2, hg1, hg2, hw8, encBd]; refine Z _ _ ?_; clear Z Y)
    all_goals refine D.nil ⟨?_, ?_⟩
    all_goals iterate 2 (refine D.g rfl trivial rfl rfl fun Y Z => ?_; simp only [zz, reduceIte, Nat.reduceEqDiff, Nat.reduceLT, Nat.reduceLeDiff, Nat.reduceAdd, reduceCtorEq, Nat.reduceMul, tt, e0, e22, e4, hpb, hj1, hj2, hg1, hg2, hw8, encBd]; refine Z _ _ ?_; clear Z Y)
    all_goals have q1q := J10 e0 e22 e4 hpb hj1 hj2 hg1 hg2 hw8 @encBd.eq_1
    all_goals (refine D.g rfl trivial rfl rfl fun Y Z => ?_; simp only [zz, simprocAttr, -Int.reduceNatCast', q1q]; refine PCalls.eqto (less_spec x y) ?_ <;> (refine Z _ _ ?_; clear Z Y))
    all_goals iterate 2 refine D.one q1q ?_
    all_goals refine D.nil ?_
    all_goals simp only [ze, simprocAttr, q1q]
    all_goals exact ⟨e1, e2, e3, e18, e19, e10, e11, _, rfl⟩
   rintro s3 σ3 ⟨rfl, g0, g1, g2, g3, g4, g18, g19, g10, g11, g22, g12, b2, g50⟩
   refine AW.cond (b := b2) g50 (fun hd => ?_) (fun hd => ?_)
   ·skip
    refine AW.reg0 (S.rn (J2 g12 hw4) ?_)
    simp only [ze, simprocAttr, g12, hw4]
    exact ⟨j - (h + 1), by omega, h + 1, j, rfl, by omega, by omega, hj, hj', by omega, g0, g1, g2, g3, g4, g18, g19, rfl, g11, g22⟩
   ·skip
    refine AW.reg0 (S.rn g12 ?_)
    simp only [ze, simprocAttr, g12]
    exact ⟨h - i, by omega, i, h, rfl, by omega, by omega, by omega, by omega, by omega, g0, g1, g2, g3, g4, g18, g19, g10, rfl, g22⟩
  ·refine AW.exit ?_
   simp only [zs, simprocAttr]
   have hc := of_decide_eq_false hc
   exact ⟨i, l0, hi, by omega, by omega, hnb, e0, e1, e2, e3, e4, e18, e19, e10, rfl, Sub.refl _⟩
 rintro s1 σ1 ⟨st, l1, hi1, hi2, hi3, hi4, f0, f1, f2, f3, f4, f18, f19, f20, rfl, hs1⟩
 have hw8 : IntKind.i64.wrap ((n : Int) - st) = ((n - st : Nat) : Int) := by rw [wrap_small _ (by omega) (by omega)]; omega
 all_goals refine AW.sr (J3 f19 f20 hw8) ?_
 refine AW.seq_j (fun s σ => ∃ l', s.t 0 = .gl k ∧ s.t 1 = .c (.int .i64 a) ∧ s.t 3 = .c (.int .i64 b) ∧ s.t 4 = .fn (.func 141) [] [] ∧ s.t 18 = .c (.int .i64 mid) ∧ s.t 20 = .c (.int .i64 (st : Nat)) ∧ s.t 24 = .c (.int .i64 ((n - st : Nat) : Int)) ∧ σ = hpB k l' ∧ Sub l0 l') ?_ ?_
 ·by_cases hc1 : st < m0
  ·by_cases hc2 : m0 < n - st
   ·refine AW.seq_k fun K16 h16 => ?_
    refine AW.reg0 ?_
    have q2q := J7 f0 f1 f2 f3 f4 f18 f20
    iterate 2 refine S.one q2q ?_
    (refine S.sp q2q fun b a180 => ?_; cases b <;> (try exact nope a180))
    all_goals iterate 5 refine S.one q2q ?_
    all_goals (refine S.nil ?_; simp only [ze, simprocAttr, q2q]; apply_assumption)
    refine AW.cond (b := true) (by simp [ev]; try omega) (fun hc => ?_) (fun hc => by cases hc)
    all_goals refine AW.reg0 ?_
    all_goals iterate 5 refine S.one q2q ?_
    all_goals have q3q := J7 f0 f1 f2 f3 f4 f18 f20
    all_goals (refine S.g rfl rfl fun Y Z => ?_; simp only [zz, simprocAttr, -Int.reduceNatCast', q3q]; refine (rotate_weak l1 k st m0 (n - st) (by omega) (by omega) (by rw [hs1.1]; omega) (by rw [hs1.1]; omega)).to fun v σ1 hv => ?_; obtain ⟨rfl, l2, hl2, rfl⟩ := hv <;> (refine Z _ _ ?_; clear Z Y))
    all_goals refine S.nil ?_
    all_goals simp only [ze, simprocAttr, q3q]
    refine ⟨l2, ?_⟩; have hfin := hs1.trans hl2; (repeat' apply And.intro) <;> first | rfl | assumption | exact hfin.1 | exact hfin.2
   ·refine AW.seq_k fun K17 h17 => ?_
    refine AW.reg0 ?_
    have q4q := J7 f0 f1 f2 f3 f4 f18 f20
    iterate 2 refine S.one q4q ?_
    (refine S.sp q4q fun b a180 => ?_; cases b <;> (try exact nope a180))
    all_goals iterate 5 refine S.one q4q ?_
    all_goals (refine S.nil ?_; simp only [ze, simprocAttr, q4q]; apply_assumption)
    refine AW.cond (b := false) (by simp [ev]; try omega) (fun hc => by cases hc) (fun hc => AW.skip ?_)
    all_goals simp only [zs, simprocAttr]
    refine ⟨l1, ?_⟩; have hfin := hs1; (repeat' apply And.intro) <;> first | rfl | assumption | exact hfin.1 | exact hfin.2
  ·refine AW.seq_k fun K18 h18 => ?_
   refine AW.reg0 ?_
   have q5q := J7 f0 f1 f2 f3 f4 f18 f20
   iterate 2 refine S.one q5q ?_
   (refine S.sp q5q fun b a180 => ?_; cases b <;> (try exact nope a180))
   all_goals iterate 5 refine S.one q5q ?_
   all_goals (refine S.nil ?_; simp only [ze, simprocAttr, q5q]; apply_assumption)
   refine AW.cond (b := false) (by simp [ev]; try omega) (fun hc => by cases hc) (fun hc => AW.skip ?_)
   all_goals simp only [zs, simprocAttr]
   refine ⟨l1, ?_⟩; have hfin := hs1; (repeat' apply And.intro) <;> first | rfl | assumption | exact hfin.1 | exact hfin.2
 clear f0 f1 f2 f3 f4 f18 f19 f20 hs1
 rintro s2 σ2 ⟨l2, f0, f1, f3, f4, f18, f20, f24, rfl, hs2⟩
 refine AW.seq_j (fun s σ => ∃ l', s.t 0 = .gl k ∧ s.t 3 = .c (.int .i64 b) ∧ s.t 4 = .fn (.func 141) [] [] ∧ s.t 18 = .c (.int .i64 mid) ∧ s.t 24 = .c (.int .i64 ((n - st : Nat) : Int)) ∧ σ = hpB k l' ∧ Sub l0 l') ?_ ?_
 ·by_cases hc1 : a < st
  ·by_cases hc2 : st < mid
   ·refine AW.seq_k fun K19 h19 => ?_
    refine AW.reg0 ?_
    have q6q := J7 f0 f1 f3 f4 f18 f20 f24
    iterate 2 refine S.one q6q ?_
    (refine S.sp q6q fun b a194 => ?_; cases b <;> (try exact nope a194))
    all_goals iterate 5 refine S.one q6q ?_
    all_goals (refine S.nil ?_; simp only [ze, simprocAttr, q6q]; apply_assumption)
    refine AW.cond (b := true) (by simp [ev]; try omega) (fun hc => ?_) (fun hc => by cases hc)
    all_goals refine AW.reg0 ?_
    all_goals iterate 5 refine S.one (J6 f0 f1 f3 f4 f18 f20) ?_
    all_goals have q7q := J6 f0 f1 f3 f4 f18 f20
    all_goals (refine S.g rfl rfl fun Y Z => ?_; simp only [zz, simprocAttr, -Int.reduceNatCast', q7q]; refine (ih l2 a st mid (by omega) (by omega) (by omega) (by rw [hs2.1]; omega) (by rw [hs2.1]; omega)).to fun v σ1 hv => ?_; obtain ⟨rfl, l3, hl3, rfl⟩ := hv <;> (refine Z _ _ ?_; clear Z Y))
    all_goals refine S.nil ?_
    all_goals simp only [ze, simprocAttr, q7q]
    refine ⟨l3, ?_⟩; have hfin := hs2.trans hl3; (repeat' apply And.intro) <;> first | rfl | assumption | exact hfin.1 | exact hfin.2
   ·refine AW.seq_k fun K20 h20 => ?_
    refine AW.reg0 ?_
    have q8q := J7 f0 f1 f3 f4 f18 f20 f24
    iterate 2 refine S.one q8q ?_
    (refine S.sp q8q fun b a194 => ?_; cases b <;> (try exact nope a194))
    all_goals iterate 5 refine S.one q8q ?_
    all_goals (refine S.nil ?_; simp only [ze, simprocAttr, q8q]; apply_assumption)
    refine AW.cond (b := false) (by simp [ev]; try omega) (fun hc => by cases hc) (fun hc => AW.skip ?_)
    all_goals simp only [zs, simprocAttr]
    refine ⟨l2, ?_⟩; have hfin := hs2; (repeat' apply And.intro) <;> first | rfl | assumption | exact hfin.1 | exact hfin.2
  ·refine AW.seq_k fun K21 h21 => ?_
   refine AW.reg0 ?_
   have q9q := J7 f0 f1 f3 f4 f18 f20 f24
   iterate 2 refine S.one q9q ?_
   (refine S.sp q9q fun b a194 => ?_; cases b <;> (try exact nope a194))
   all_goals iterate 5 refine S.one q9q ?_
   all_goals (refine S.nil ?_; simp only [ze, simprocAttr, q9q]; apply_assumption)
   refine AW.cond (b := false) (by simp [ev]; try omega) (fun hc => by cases hc) (fun hc => AW.skip ?_)
   all_goals simp only [zs, simprocAttr]
   refine ⟨l2, ?_⟩; have hfin := hs2; (repeat' apply And.intro) <;> first | rfl | assumption | exact hfin.1 | exact hfin.2
 clear f0 f1 f3 f4 f18 f20 f24 hs2
 rintro s3 σ3 ⟨l3, f0, f3, f4, f18, f24, rfl, hs3⟩
 by_cases hc1 : mid < n - st
 ·by_cases hc2 : n - st < b
  ·refine AW.seq_k fun K22 h22 => ?_
   refine AW.reg0 ?_
   have q10q := J5 f0 f3 f4 f18 f24
   iterate 2 refine S.one q10q ?_
   (refine S.sp q10q fun b a208 => ?_; cases b <;> (try exact nope a208))
   all_goals iterate 5 refine S.one q10q ?_
   all_goals (refine S.nil ?_; simp only [ze, simprocAttr, q10q]; apply_assumption)
   refine AW.cond (b := true) (by simp [ev]; try omega) (fun hc => ?_) (fun hc => by cases hc)
   all_goals refine AW.reg0 ?_
   all_goals iterate 5 refine S.one q10q ?_
   all_goals have q11q := J5 f0 f3 f4 f18 f24
   all_goals (refine S.g rfl rfl fun Y Z => ?_; simp only [zz, simprocAttr, -Int.reduceNatCast', q11q]; refine (ih l3 mid (n - st) b (by omega) (by omega) (by omega) (by rw [hs3.1]; omega) (by rw [hs3.1]; omega)).to fun v σ1 hv => ?_; obtain ⟨rfl, l4, hl4, rfl⟩ := hv <;> (refine Z _ _ ?_; clear Z Y))
   all_goals refine S.nil ?_
   all_goals simp only [ze, simprocAttr, q11q]
   exact ⟨rfl, l4, hs3.trans hl4, rfl⟩
  ·refine AW.seq_k fun K23 h23 => ?_
   refine AW.reg0 ?_
   have q12q := J5 f0 f3 f4 f18 f24
   iterate 2 refine S.one q12q ?_
   (refine S.sp q12q fun b a208 => ?_; cases b <;> (try exact nope a208))
   all_goals iterate 5 refine S.one q12q ?_
   all_goals (refine S.nil ?_; simp only [ze, simprocAttr, q12q]; apply_assumption)
   refine AW.cond (b := false) (by simp [ev]; try omega) (fun hc => by cases hc) (fun hc => AW.skip ?_)
   all_goals simp only [zs, simprocAttr]
   exact ⟨rfl, l3, hs3, rfl⟩
 ·refine AW.seq_k fun K24 h24 => ?_
  refine AW.reg0 ?_
  have q13q := J5 f0 f3 f4 f18 f24
  iterate 2 refine S.one q13q ?_
  (refine S.sp q13q fun b a208 => ?_; cases b <;> (try exact nope a208))
  all_goals iterate 5 refine S.one q13q ?_
  all_goals (refine S.nil ?_; simp only [ze, simprocAttr, q13q]; apply_assumption)
  refine AW.cond (b := false) (by simp [ev]; try omega) (fun hc => by cases hc) (fun hc => AW.skip ?_)
  all_goals simp only [zs, simprocAttr]
  exact ⟨rfl, l3, hs3, rfl⟩
theorem sink_sub (lo : Nat) : ∀ (j : Nat) (l0 l : List Bd), Sub l0 l → Sub l0 (sink lo j l) := by
  intro j
  induction j with
  | zero => exact fun _ _ h => h
  | succ j ih =>
    intro l0 l h
    simp only [sink]
    split
    · rename_i x y hx hy
      split
      · exact ih l0 _ (h.swap hx hy)
      · exact h
    · exact h
theorem insFrom_sub (lo : Nat) : ∀ (m i : Nat) (l0 l : List Bd), Sub l0 l → Sub l0 (insFrom lo l i m) := by
  intro m
  induction m with
  | zero => exact fun _ _ _ h => h
  | succ m ih =>
    intro i l0 l h
    simp only [insFrom, List.range'_succ, List.foldl_cons]
    exact ih (i + 1) l0 _ (sink_sub lo i l0 l h)
theorem insort_sub (lo hi : Nat) (l : List Bd) : Sub l (insort lo hi l) := insFrom_sub lo _ _ l l (Sub.refl l)
theorem stable_weak (l0 : List Bd) (k : Nat) (hn : l0.length < 2147483648) :
  ACalls Tryz.prog 171 [.gl k, .c (.int .i64 l0.length), .fn (.func 141) [] []] (hpB k l0) (hpS k l0) := by
 refine ACalls.intro Tryz.call171 Tryz.func171 rfl Tryz.ntmps171 Tryz.results171 (by simp) ?_
 refine AW.sr trivial ?_
 refine AW.sr trivial ?_
 refine AW.seq_j (fun s σ => ∃ a l', a ≤ l0.length ∧ s.t 0 = .gl k ∧ s.t 1 = .c (.int .i64 l0.length) ∧ s.t 2 = .fn (.func 141) [] [] ∧ s.t 6 = .c (.int .i64 ((20 : Nat) : Int)) ∧ s.t 7 = .c (.int .i64 (a : Nat)) ∧ σ = hpB k l' ∧ Sub l0 l') ?_ ?_
 ·refine AW.block ?_   -- 0
  refine AW.loop (fun m s σ => ∃ a b l', m + a = l0.length ∧ b = a + 20 ∧ s.t 0 = .gl k ∧ s.t 1 = .c (.int .i64 l0.length) ∧ s.t 2 = .fn (.func 141) [] [] ∧ s.t 6 = .c (.int .i64 ((20 : Nat) : Int)) ∧ s.t 7 = .c (.int .i64 (a : Nat)) ∧ s.t 8 = .c (.int .i64 (b : Nat)) ∧ σ = hpB k l' ∧ Sub l0 l') l0.length ?_ ?_
  ·refine ⟨0, 20, l0, rfl, rfl, ?_⟩
   simp only [zs, simprocAttr, -Int.reduceNatCast', -Int.reduceToNat]
   exact ⟨rfl, rfl, rfl, rfl, fun _ h => h⟩
  rintro m s σ ⟨a, b, l', hm, hab, e0, e1, e2, e6, e7, e8, rfl, hs⟩
  refine AW.seq_k fun K3 h3 => ?_
  all_goals refine AW.sr (J2 e1 e8) ?_
  refine AW.cond (b := decide (b ≤ l0.length)) (by simp [ev]) (fun hc => ?_) (fun hc => ?_)
  ·have hc := of_decide_eq_true hc
   refine AW.skip ?_
   simp only [zs, simprocAttr]
   all_goals apply_assumption
   have hw : IntKind.i64.wrap ((b : Int) + (20 : Nat)) = ((b + 20 : Nat) : Int) := by rw [wrap_small _ (by omega) (by omega)]; rfl
   refine AW.block ?_   -- 1
   refine AW.seq_k fun K5 h5 => ?_
   refine AW.reg0 ?_
   iterate 4 refine S.one (J4 e0 e2 e7 e8) ?_
   have q1q := J4 e0 e2 e7 e8
   (refine S.g rfl rfl fun Y Z => ?_; simp only [zz, simprocAttr, -Int.reduceNatCast', -Int.reduceToNat, q1q]; refine (insort_spec l' k a b (by omega) (by rw [hs.1]; omega) (by rw [hs.1]; omega)).to fun v σ1 hv => ?_; obtain ⟨rfl, rfl⟩ := hv <;> (refine Z _ _ ?_; clear Z Y))
   all_goals (refine S.nil ?_; simp only [ze, simprocAttr, q1q]; apply_assumption)
   all_goals refine AW.sr e8 ?_
   all_goals refine AW.reg0 (S.rn (J3 e8 e6 hw) ?_)
   all_goals simp only [ze, simprocAttr, e8, e6, hw]
   exact ⟨m - 20, by omega, b, b + 20, _, by omega, rfl, e0, e1, e2, rfl, rfl, rfl, hs.trans (insort_sub a b l')⟩
  ·have hc := of_decide_eq_false hc
   refine AW.exit ?_
   simp only [zs, simprocAttr]
   exact ⟨a, l', by omega, e0, e1, e2, e6, e7, rfl, hs⟩
 rintro s0 σ0 ⟨a, l', ha, e0, e1, e2, e6, e7, rfl, hs⟩
 refine AW.seq_k fun K7 h7 => ?_
 all_goals refine AW.reg0 ?_
 all_goals iterate 4 refine S.one (J4 e0 e1 e2 e7) ?_
 all_goals have q2q := J4 e0 e1 e2 e7
 all_goals (refine S.g rfl rfl fun Y Z => ?_; simp only [zz, simprocAttr, -Int.reduceNatCast', -Int.reduceToNat, q2q]; refine (insort_spec l' k a l0.length (by omega) (by rw [hs.1]; omega) (by rw [hs.1]; omega)).to fun v σ1 hv => ?_; obtain ⟨rfl, rfl⟩ := hv <;> (refine Z _ _ ?_; clear Z Y))
 all_goals (refine S.nil ?_; simp only [ze, simprocAttr, q2q]; apply_assumption)
 have hs2 := hs.trans (insort_sub a l0.length l')
 generalize insort a l0.length l' = l1 at hs2 ⊢
 clear hs
 refine AW.block ?_   -- 2
 refine AW.loop (fun m s σ => ∃ c l', m = l0.length - c ∧ 20 ≤ c ∧ c < 4294967296 ∧ s.t 0 = .gl k ∧ s.t 1 = .c (.int .i64 l0.length) ∧ s.t 2 = .fn (.func 141) [] [] ∧ s.t 6 = .c (.int .i64 (c : Nat)) ∧ σ = hpB k l' ∧ Sub l0 l') (l0.length - 20) ?_ ?_
 ·refine ⟨20, l1, rfl, by omega, by omega, ?_⟩
  simp only [zs, simprocAttr]
  exact ⟨e0, e1, e2, e6, hs2⟩
 clear e0 e1 e2 e6 e7 hs2 ha
 rintro m s σ ⟨c, l', hm, hc1, hc2, e0, e1, e2, e6, rfl, hs⟩
 refine AW.seq_k fun K8 h8 => ?_
 all_goals refine AW.sr (J2 e1 e6) ?_
 refine AW.cond (b := decide (c < l0.length)) (by simp [ev]) (fun hc => ?_) (fun hc => ?_)
 ·have hc := of_decide_eq_true hc
  refine AW.skip ?_
  simp only [zs, simprocAttr]
  all_goals apply_assumption
  have hw : IntKind.i64.wrap (2 * (c : Int)) = ((2 * c : Nat) : Int) := by rw [wrap_small _ (by omega) (by omega)]; rfl
  have hw' : IntKind.i64.wrap ((c : Int) * 2) = ((2 * c : Nat) : Int) := by rw [wrap_small _ (by omega) (by omega)]; omega
  refine AW.block ?_   -- 3
  refine AW.sr (J2 e6 hw) ?_
  refine AW.seq_j (fun s σ => ∃ a l', a ≤ l0.length ∧ s.t 0 = .gl k ∧ s.t 1 = .c (.int .i64 l0.length) ∧ s.t 2 = .fn (.func 141) [] [] ∧ s.t 6 = .c (.int .i64 (c : Nat)) ∧ s.t 7 = .c (.int .i64 (a : Nat)) ∧ σ = hpB k l' ∧ Sub l0 l') ?_ ?_
  ·refine AW.block ?_   -- 4
   refine AW.loop (fun m s σ => ∃ a b l', m + a = l0.length ∧ b = a + 2 * c ∧ s.t 0 = .gl k ∧ s.t 1 = .c (.int .i64 l0.length) ∧ s.t 2 = .fn (.func 141) [] [] ∧ s.t 6 = .c (.int .i64 (c : Nat)) ∧ s.t 7 = .c (.int .i64 (a : Nat)) ∧ s.t 8 = .c (.int .i64 (b : Nat)) ∧ σ = hpB k l' ∧ Sub l0 l') l0.length ?_ ?_
   ·refine ⟨0, 2 * c, l', rfl, by omega, ?_⟩
    simp only [zs, simprocAttr, -Int.reduceNatCast', -Int.reduceToNat]
    exact ⟨e0, e1, e2, e6, rfl, hs⟩
   clear hs e0 e1 e2 e6
   rintro m s σ ⟨a, b, l', hm, hab, e0, e1, e2, e6, e7, e8, rfl, hs⟩
   refine AW.seq_k fun K11 h11 => ?_
   all_goals refine AW.sr (J2 e1 e8) ?_
   refine AW.cond (b := decide (b ≤ l0.length)) (by simp [ev]) (fun hc => ?_) (fun hc => ?_)
   ·have hc := of_decide_eq_true hc
    refine AW.skip ?_
    simp only [zs, simprocAttr]
    all_goals apply_assumption
    have hw3 : IntKind.i64.wrap ((a : Int) + c) = ((a + c : Nat) : Int) := by rw [wrap_small _ (by omega) (by omega)]; rfl
    have hw4 : IntKind.i64.wrap ((b : Int) + (2 * c : Nat)) = ((b + 2 * c : Nat) : Int) := by rw [wrap_small _ (by omega) (by omega)]; rfl
    refine AW.block ?_   -- 5
    refine AW.seq_k fun K13 h13 => ?_
    refine AW.reg0 ?_
    iterate 7 refine S.one (J6 e0 e2 e6 e7 e8 hw3) ?_
    have q3q := J6 e0 e2 e6 e7 e8 hw3
    (refine S.g rfl rfl fun Y Z => ?_; simp only [zz, simprocAttr, -Int.reduceNatCast', -Int.reduceToNat, q3q]; refine (sym_weak k (b - a) l' a (a + c) b (by omega) (by omega) (by omega) (by rw [hs.1]; omega) (by rw [hs.1]; omega)).to fun v σ1 hv => ?_; obtain ⟨rfl, l3, hl3, rfl⟩ := hv <;> (refine Z _ _ ?_; clear Z Y))
    all_goals (refine S.nil ?_; simp only [ze, simprocAttr, q3q]; apply_assumption)
    all_goals refine AW.sr e8 ?_
    all_goals have q4q := J4 e8 e6 hw hw4
    all_goals refine AW.reg0 (S.rn q4q ?_)
    all_goals simp only [ze, simprocAttr, q4q]
    exact ⟨m - 2 * c, by omega, b, b + 2 * c, _, by omega, rfl, e0, e1, e2, rfl, rfl, rfl, hs.trans hl3⟩
   ·have hc := of_decide_eq_false hc
    refine AW.exit ?_
    simp only [zs, simprocAttr]
    exact ⟨a, l', by omega, e0, e1, e2, e6, e7, rfl, hs⟩
  clear hs e0 e1 e2 e6
  rintro s0 σ0 ⟨a, l', ha, e0, e1, e2, e6, e7, rfl, hs⟩
  have hw3 : IntKind.i64.wrap ((a : Int) + c) = ((a + c : Nat) : Int) := by rw [wrap_small _ (by omega) (by omega)]; rfl
  refine AW.seq_k fun K15 h15 => ?_
  all_goals refine AW.sr (J3 e6 e7 hw3) ?_
  all_goals refine AW.sr e1 ?_
  refine AW.cond (b := decide (a + c < l0.length)) (by simp [ev]) (fun hd => ?_) (fun hd => ?_)
  ·have hd := of_decide_eq_true hd
   refine AW.reg0 ?_
   iterate 5 refine S.one (J4 e0 e1 e2 e7) ?_
   have q5q := J4 e0 e1 e2 e7
   (refine S.g rfl rfl fun Y Z => ?_; simp only [zz, simprocAttr, -Int.reduceNatCast', -Int.reduceToNat, q5q]; refine (sym_weak k (l0.length - a) l' a (a + c) l0.length (by omega) (by omega) (by omega) (by rw [hs.1]; omega) (by rw [hs.1]; omega)).to fun v σ1 hv => ?_; obtain ⟨rfl, l3, hl3, rfl⟩ := hv <;> (refine Z _ _ ?_; clear Z Y))
   all_goals (refine S.nil ?_; simp only [ze, simprocAttr, q5q]; apply_assumption)
   all_goals refine AW.reg0 (S.rn (J2 e6 hw') ?_)
   all_goals simp only [ze, simprocAttr, e6, hw']
   exact ⟨m - c, by omega, 2 * c, _, by omega, by omega, by omega, e0, e1, e2, rfl, rfl, hs.trans hl3⟩
  ·refine AW.skip ?_
   simp only [zs, simprocAttr]
   all_goals apply_assumption
   refine AW.reg0 (S.rn (J2 e6 hw') ?_)
   simp only [ze, simprocAttr, e6, hw']
   exact ⟨m - c, by omega, 2 * c, _, by omega, by omega, by omega, e0, e1, e2, rfl, rfl, hs⟩
 ·refine AW.exit ?_
  simp only [zs, simprocAttr]
  exact ⟨rfl, l', hs, rfl⟩
theorem sort_weak (l : List Bd) (k : Nat) (hn : l.length < 2147483648) :
    ACalls Tryz.prog 140 [.gl k, .fn (.func 141) [] []] (hpB k l) (hpS k l) := by
  refine ACalls.intro Tryz.call140 Tryz.func140 rfl Tryz.ntmps140 Tryz.results140 (by simp) ?_
  have hpb : (hpB k l).gr k = some ((50, 6), l.map encBd) := by simp [hpB]
  refine AW.mono (Q := thenS (fun s' σ' => ∃ l', Sub l l' ∧ σ' = hpB k l') (fun _ _ _ => False)) ?_ ?_
  · clear hpb; unfold hpB
    refine AW.reg0 ?_
    iterate 4 refine S.one trivial ?_
    (refine S.g rfl rfl fun Y Z => ?_; simp only [zz, simprocAttr, -Int.reduceNatCast', -Int.reduceToNat]; refine (stable_weak l k (by omega)).to fun v σ1 hv => ?_; obtain ⟨rfl, l2, hl2, rfl⟩ := hv <;> (refine Z _ _ ?_; clear Z Y))
    all_goals refine S.nil ?_
    all_goals simp only [ze, simprocAttr]
    exact ⟨l2, hl2, rfl⟩
  rintro e s σ hq
  cases e with
  | normal =>
    obtain ⟨l2, hl2, rfl⟩ : ∃ l', Sub l l' ∧ σ = hpB k l' := hq
    simp only [zs, simprocAttr]
    exact ⟨rfl, l2, hl2, rfl⟩
  | _ => exact hq.elim
def mrg : List Bd → List Bd → List Bd
  | [], b => b
  | x :: a, [] => x :: a
  | x :: a, y :: b => if leS x.var y.var = true then x :: mrg a (y :: b) else y :: mrg (x :: a) b
termination_by a b => a.length + b.length
theorem mrg_len (a b : List Bd) : (mrg a b).length = a.length + b.length := by
 fun_induction mrg a b <;> simp_all <;> omega
theorem mrg_mem (a b : List Bd) : ∀ x ∈ mrg a b, x ∈ a ++ b := by
 fun_induction mrg a b
 ·intro x hx; simpa using hx
 ·intro x hx; simpa using hx
 ·rename_i ih
  intro z hz
  rcases List.mem_cons.1 hz with rfl | hz
  ·simp
  ·have := ih z hz; simp at this ⊢; rcases this with h | h | h <;> simp_all
 ·rename_i ih
  intro z hz
  rcases List.mem_cons.1 hz with rfl | hz
  ·simp
  ·have := ih z hz; simp at this ⊢; rcases this with h | h | h <;> simp [h]
def own (s : St) (σ : Hp) (t : Nat) (l : List Bd) : Prop := (l = [] ∧ s.t t = .c (.slice none 0 0) ∧ σ = Hp.empty) ∨ ∃ g, s.t t = .gl g ∧ σ = hpB g l
theorem insort_nil : PCalls Tryz.prog 186 [.c (.slice none 0 0), .c (.int .i64 0), .c (.int .i64 0), .fn (.func 141) [] []] (fun v => v = .tup []) := by
 refine PCalls.intro Tryz.call186 Tryz.func186 rfl Tryz.ntmps186 Tryz.results186 (by simp) ?_
 have hw1 : IntKind.i64.wrap ((0 : Int) + 1) = 1 := by rw [wrap_small _ (by omega) (by omega)]; rfl
 refine AW.sr hw1 ?_
 refine AW.block ?_   -- 0
 refine AW.loop (fun m s σ => s.t 2 = .c (.int .i64 0) ∧ s.t 8 = .c (.int .i64 1) ∧ σ = Hp.empty) 0 ?_ ?_
 ·simp only [zs, simprocAttr]
 rintro m s σ ⟨e2, e8, rfl⟩
 refine AW.seq_k fun K2 h2 => ?_
 all_goals refine AW.sr (J2 e2 e8) ?_
 refine AW.cond (b := false) (by simp [ev]) (fun hc => by cases hc) (fun hc => AW.exit ?_)
 all_goals simp only [zs, simprocAttr]
 rfl
theorem stable_nil : PCalls Tryz.prog 171 [.c (.slice none 0 0), .c (.int .i64 0), .fn (.func 141) [] []] (fun v => v = .tup []) := by
 refine PCalls.intro Tryz.call171 Tryz.func171 rfl Tryz.ntmps171 Tryz.results171 (by simp) ?_
 refine AW.sr trivial ?_
 refine AW.sr trivial ?_
 refine AW.seq_k fun K3 h3 => ?_
 refine AW.block ?_   -- 0
 refine AW.loop (fun m s σ => σ = Hp.empty ∧ s.t 0 = .c (.slice none 0 0) ∧ s.t 1 = .c (.int .i64 0) ∧ s.t 2 = .fn (.func 141) [] [] ∧ s.t 6 = .c (.int .i64 20) ∧ s.t 7 = .c (.int .i64 0) ∧ s.t 8 = .c (.int .i64 20)) 0 ?_ ?_
 ·simp only [zs, simprocAttr]
 rintro m s σ ⟨rfl, e0, e1, e2, e6, e7, e8⟩
 refine AW.seq_k fun K4 h4 => ?_
 all_goals refine AW.sr (J2 e1 e8) ?_
 refine AW.cond (b := false) (by simp [ev]) (fun hc => by cases hc) (fun hc => AW.exit ?_)
 all_goals simp only [zs, simprocAttr]
 all_goals apply_assumption
 refine AW.seq_k fun K6 h6 => ?_
 all_goals refine AW.region (T := { raw := fun d => d == 186 }) (fun _ _ h => by cases h) rfl ?_
 all_goals iterate 4 refine S.one (J4 e0 e1 e2 e7) ?_
 all_goals have q1q := J4 e0 e1 e2 e7
 all_goals (refine S.g rfl rfl fun Y Z => ?_; simp only [zz, simprocAttr, -Int.reduceNatCast', -Int.reduceToNat, q1q]; refine PCalls.eqto insort_nil ?_ <;> (refine Z _ _ ?_; clear Z Y))
 all_goals (refine S.nil ?_; simp only [ze, simprocAttr, q1q]; apply_assumption)
 refine AW.block ?_   -- 2
 refine AW.loop (fun m s σ => σ = Hp.empty ∧ s.t 1 = .c (.int .i64 0) ∧ s.t 6 = .c (.int .i64 20)) 0 ?_ ?_
 ·simp only [zs, simprocAttr]
  exact ⟨e1, e6⟩
 rintro m2 s2 σ2 ⟨rfl, f1, f6⟩
 refine AW.seq_k fun K7 h7 => ?_
 all_goals refine AW.sr (J2 f1 f6) ?_
 refine AW.cond (b := false) (by simp [ev]) (fun hc => by cases hc) (fun hc => AW.exit ?_)
 all_goals simp only [zs, simprocAttr]
 rfl
theorem sort_nil : PCalls Tryz.prog 140 [.c (.slice none 0 0), .fn (.func 141) [] []] (fun v => v = .tup []) := by
  refine PCalls.intro Tryz.call140 Tryz.func140 rfl Tryz.ntmps140 Tryz.results140 (by simp) ?_
  refine AW.mono (Q := thenS (fun s' σ' => σ' = Hp.empty) (fun _ _ _ => False)) ?_ ?_
  · skip
    refine AW.region (T := { raw := fun d => d == 171 }) (fun _ _ h => by cases h) rfl ?_
    all_goals iterate 4 refine S.one trivial ?_
    all_goals (refine S.g rfl rfl fun Y Z => ?_; simp only [zz, simprocAttr, -Int.reduceNatCast', -Int.reduceToNat]; refine PCalls.eqto stable_nil ?_ <;> (refine Z _ _ ?_; clear Z Y))
    all_goals refine S.nil ?_
    all_goals simp only [ze, simprocAttr]
  rintro e s σ hq
  cases e with
  | normal =>
    obtain rfl : σ = Hp.empty := hq
    simp only [zs, simprocAttr]
    rfl
  | _ => exact hq.elim
theorem merge_nil : PCalls Tryz.prog 106 [.agg [.sl []], .agg [.sl []]] (fun v => v = .tup [.agg [.sl []], .c (.bool true)]) := by
 have hok : okP [] := fun _ h => by cases h
 have hpe : partErr [] = 0 := rfl
 refine PCalls.intro Tryz.call106 Tryz.func106 rfl Tryz.ntmps106 Tryz.results106 (by simp) ?_
 all_goals refine AW.sr trivial ?_
 refine AW.seq_k fun K2 h2 => ?_
 refine AW.seq_k fun K3 h3 => ?_
 all_goals refine AW.reg0 ?_
 all_goals refine S.one hpe ?_
 all_goals (refine S.g rfl rfl fun Y Z => ?_; simp only [zz, simprocAttr, -Int.reduceNatCast', -Int.reduceToNat, hpe]; refine PCalls.eqto (check_part [] hok) ?_ <;> (refine Z _ _ ?_; clear Z Y))
 all_goals (refine S.sp hpe fun b a9 => ?_; cases b <;> (try exact nope a9))
 all_goals iterate 2 refine S.one hpe ?_
 all_goals (first | (refine S.y rfl rfl rfl rfl fun Y Z => ?_; simp only [zz, simprocAttr, -Int.reduceNatCast', -Int.reduceToNat, hpe]; refine PCalls.eqto (check_part [] hok) ?_ <;> (refine Z _ _ ?_; clear Z Y)) | ((first | refine S.x rfl rfl rfl rfl fun Y Z => ?_ | refine S.u rfl rfl rfl rfl fun Y Z => ?_); simp only [ze, simprocAttr, -Int.reduceNatCast', -Int.reduceToNat]; refine Z _ _ ?_; clear Z Y))
 all_goals iterate 2 refine S.one hpe ?_
 all_goals (refine S.nil ?_; simp only [ze, simprocAttr, hpe]; apply_assumption)
 refine AW.cond (b := false) (by simp [ev]) (fun hc => by cases hc) (fun hc => AW.skip ?_)
 all_goals simp only [zs, simprocAttr]
 all_goals apply_assumption
 have htot : tot [[], []] * 80 ≤ 140737488355328 := by simp [tot]
 refine AW.seq_k fun K4 h4 => ?_
 all_goals refine AW.reg0 ?_
 all_goals have q1q := J4 @List.flatten_cons.{0} @List.flatten_nil.{0} @List.nil_append.{0} @List.map_nil.{0,0}
 all_goals iterate 4 refine S.one q1q ?_
 all_goals (refine S.g rfl rfl fun Y Z => ?_; simp only [zb, simprocAttr, -Int.reduceNatCast', -Int.reduceToNat, tt, List.flatten_cons, List.flatten_nil, List.nil_append, List.map_nil]; refine ⟨rfl, (by simp), ?_⟩ <;> (refine Z _ _ ?_; clear Z Y))
 all_goals (refine S.g rfl rfl fun Y Z => ?_; simp only [zz, simprocAttr, -Int.reduceNatCast', -Int.reduceToNat, q1q]; refine PCalls.eqto (concat_frozen [[], []] (by simp) (by simp) htot) ?_ <;> (refine Z _ _ ?_; clear Z Y))
 all_goals refine S.one q1q ?_
 all_goals (refine S.g rfl rfl fun Y Z => ?_; simp only [zz, simprocAttr, -Int.reduceNatCast', -Int.reduceToNat, q1q]; refine ((clone_grow [] (by simp) (by simp)).to fun v σ1 hv => ?_); replace hv := hv.resolve_right (fun h => by obtain ⟨_, h, _⟩ := h; exact h rfl); obtain ⟨_, rfl, rfl⟩ := hv <;> (refine Z _ _ ?_; clear Z Y))
 all_goals iterate 2 refine S.one q1q ?_
 all_goals (refine S.nil ?_; simp only [ze, simprocAttr, q1q]; apply_assumption)
 refine AW.seq_k fun K5 h5 => ?_
 all_goals refine AW.region (T := { raw := fun d => d == 140 }) (fun _ _ h => by cases h) rfl ?_
 all_goals iterate 2 refine S.one trivial ?_
 all_goals (refine S.g rfl rfl fun Y Z => ?_; simp only [zz, simprocAttr, -Int.reduceNatCast', -Int.reduceToNat]; refine PCalls.eqto sort_nil ?_ <;> (refine Z _ _ ?_; clear Z Y))
 all_goals (refine S.nil ?_; simp only [ze, simprocAttr]; apply_assumption)
 refine AW.seq_k fun K6 h6 => ?_
 refine AW.seq_k fun K7 h7 => ?_
 all_goals refine AW.reg0 ?_
 all_goals refine S.one hpe ?_
 all_goals (refine S.g rfl rfl fun Y Z => ?_; simp only [zz, simprocAttr, -Int.reduceNatCast', -Int.reduceToNat, hpe]; refine PCalls.eqto (check_part [] hok) ?_ <;> (refine Z _ _ ?_; clear Z Y))
 all_goals refine S.one hpe ?_
 all_goals (refine S.nil ?_; simp only [ze, simprocAttr, hpe]; apply_assumption)
 refine AW.cond (b := false) (by simp [ev]) (fun hc => by cases hc) (fun hc => AW.skip ?_)
 all_goals simp only [zs, simprocAttr]
 all_goals apply_assumption
 all_goals refine AW.sr trivial ?_
 refine AW.ret ?_
 all_goals simp only [zs, simprocAttr, qLoad, tt, cut, List.drop_zero, List.take_succ_cons, List.take_zero, List.map]
theorem bytesLess_eq' : ∀ (x y : List UInt8), Op.bytesLess x y = decide (x < y)
  | [], [] => by simp [Op.bytesLess]
  | _ :: _, [] => by simp [Op.bytesLess]
  | [], _ :: _ => by simp [Op.bytesLess]
  | a :: x, b :: y => by
    rw [Op.bytesLess, bytesLess_eq' x y]
    simp only [List.cons_lt_cons_iff]
    by_cases h1 : a < b <;> by_cases h2 : a = b <;> by_cases h3 : x < y <;> simp [h1, h2, h3]
theorem leS_iff (a b : ByteArray) : leS a b = true ↔ ¬ b.toList < a.toList := by
 simp only [leS, bytesLess_eq', Bool.or_eq_true, decide_eq_true_eq, beq_iff_eq]
 constructor
 ·rintro (h | h)
  ·exact List.lt_asymm h
  ·rw [h]; exact List.lt_irrefl _
 ·intro h
  have h : a.toList ≤ b.toList := h
  by_cases e : a.toList = b.toList
  ·exact .inr e
  ·rcases List.le_iff_lt_or_eq.1 h with h | h
   ·exact .inl h
   ·exact absurd h e
theorem leS_false (a b : ByteArray) : leS a b = false ↔ b.toList < a.toList := by
 rw [← Bool.not_eq_true, leS_iff, Decidable.not_not]
theorem leS_trans {a b c : ByteArray} (h : leS a b = true) (k : leS b c = true) : leS a c = true := by
 rw [leS_iff] at *
 exact List.le_trans (show a.toList ≤ b.toList from h) (show b.toList ≤ c.toList from k)
theorem leS_total {a b : ByteArray} (h : leS a b = false) : leS b a = true := by
 rw [leS_false] at h; rw [leS_iff]; exact List.lt_asymm h
theorem cmpS_neg (a b : ByteArray) : cmpS a b < 0 ↔ leS b a = false := by
 rw [leS_false]
 unfold cmpS
 rw [bytesLess_eq']
 by_cases h : a.toList < b.toList
 ·simp [h]
 ·simp only [h, decide_false, Bool.false_eq_true, if_false, Bool.false_or, iff_false]
  split <;> omega
def insL : List Bd → Bd → List Bd
  | [], y => [y]
  | x :: p, y => if leS x.var y.var = true then x :: insL p y else y :: x :: p
def Srt : List Bd → Prop
  | [] => True
  | x :: p => (∀ y ∈ p, leS x.var y.var = true) ∧ Srt p
theorem Srt.append {p q : List Bd} (h : Srt (p ++ q)) : Srt p ∧ Srt q ∧ ∀ x ∈ p, ∀ y ∈ q, leS x.var y.var = true := by
  induction p with
  | nil => exact ⟨trivial, h, fun x hx => by cases hx⟩
  | cons x p ih =>
    obtain ⟨h1, h2⟩ := h
    obtain ⟨a, b, c⟩ := ih h2
    refine ⟨⟨fun y hy => h1 y (List.mem_append_left _ hy), a⟩, b, fun z hz y hy => ?_⟩
    rcases List.mem_cons.1 hz with rfl | hz
    · exact h1 y (List.mem_append_right _ hy)
    · exact c z hz y hy
theorem insL_end {p : List Bd} {y : Bd} (h : ∀ x ∈ p, leS x.var y.var = true) : insL p y = p ++ [y] := by
 induction p with
 | nil => rfl
 | cons x p ih => simp only [insL]; rw [if_pos (h x List.mem_cons_self), ih (fun z hz => h z (List.mem_cons_of_mem _ hz))]; rfl
theorem insL_last {q : List Bd} {z y : Bd} (h : leS z.var y.var = false) : insL (q ++ [z]) y = insL q y ++ [z] := by
  induction q with
  | nil => simp [insL, h]
  | cons x q ih =>
    simp only [List.cons_append, insL]
    split
    · rw [ih]; rfl
    · rfl
theorem insL_mem {p : List Bd} {y z : Bd} : z ∈ insL p y ↔ z = y ∨ z ∈ p := by
  induction p with
  | nil => simp [insL]
  | cons x p ih =>
    simp only [insL]
    split
    · simp only [List.mem_cons, ih]
      constructor
      · rintro (h | h | h) <;> simp [h]
      · rintro (h | h | h) <;> simp [h]
    · simp only [List.mem_cons]
theorem insL_len (p : List Bd) (y : Bd) : (insL p y).length = p.length + 1 := by
 induction p with
 | nil => rfl
 | cons x p ih => simp only [insL]; split <;> simp [ih]
theorem insL_srt {p : List Bd} {y : Bd} (h : Srt p) : Srt (insL p y) := by
  induction p with
  | nil => exact ⟨(fun _ h => by cases h), trivial⟩
  | cons x p ih =>
    simp only [insL]
    split
    · rename_i hxy
      refine ⟨fun z hz => ?_, ih h.2⟩
      rcases insL_mem.1 hz with rfl | hz
      · exact hxy
      · exact h.1 z hz
    · rename_i hxy
      have hyx := leS_total (by simpa using hxy)
      refine ⟨fun z hz => ?_, h⟩
      rcases List.mem_cons.1 hz with rfl | hz
      · exact hyx
      · exact leS_trans hyx (h.1 z hz)
theorem sink_ins : ∀ (n : Nat) (p : List Bd) (y : Bd) (r : List Bd), p.length = n → Srt p → sink 0 n (p ++ y :: r) = insL p y ++ r := by
  intro n
  induction n with
  | zero => intro p y r hp _; rw [List.eq_nil_of_length_eq_zero hp]; rfl
  | succ n ih =>
    intro p y r hp hs
    obtain ⟨q, z, rfl⟩ : ∃ q z, p = q ++ [z] := by
      refine ⟨p.dropLast, p.getLast (by intro e; simp [e] at hp), ?_⟩
      exact (List.dropLast_concat_getLast _).symm
    have hq : q.length = n := by simpa using hp
    have g1 : (q ++ [z] ++ y :: r)[n + 1]? = some y := by simp [hq]
    have g2 : (q ++ [z] ++ y :: r)[n]? = some z := by simp [hq]
    simp only [sink, g1, g2]
    obtain ⟨hs1, hs2, hs3⟩ := hs.append
    by_cases hlt : cmpS y.var z.var < 0
    · rw [if_pos ⟨by omega, hlt⟩]
      have e : ((q ++ [z] ++ y :: r).set (n + 1) z).set n y = q ++ y :: (z :: r) := by
        subst hq
        simp
      rw [e, ih q y (z :: r) hq hs1, insL_last ((cmpS_neg _ _).1 hlt)]
      simp
    · rw [if_neg (fun h => hlt h.2)]
      have hzy : leS z.var y.var = true := by
        cases h : leS z.var y.var
        · exact absurd ((cmpS_neg _ _).2 h) hlt
        · rfl
      rw [insL_end (fun x hx => ?_)]
      · simp
      · rcases List.mem_append.1 hx with h | h
        · exact leS_trans (hs3 x h z (by simp)) hzy
        · simp at h; rw [h]; exact hzy
theorem insFrom_ins : ∀ (bs p r : List Bd), Srt p → insFrom 0 (p ++ (bs ++ r)) p.length bs.length = bs.foldl insL p ++ r := by
  intro bs
  induction bs with
  | nil => intro p r _; rfl
  | cons y bs ih =>
    intro p r hs
    have h := ih (insL p y) r (insL_srt hs)
    rw [insL_len] at h
    simp only [List.length_cons, insFrom, List.range'_succ, List.foldl_cons] at h ⊢
    rw [List.cons_append, sink_ins p.length p y (bs ++ r) rfl hs]
    exact h
theorem insort_eq (l : List Bd) : insort 0 l.length l = l.foldl insL [] := by
  cases l with
  | nil => rfl
  | cons x l =>
    have h := insFrom_ins l [x] [] ⟨(fun _ h => by cases h), trivial⟩
    simpa [insort, insL] using h
theorem foldl_skip {x : Bd} : ∀ {b a : List Bd}, (∀ y ∈ b, leS x.var y.var = true) → b.foldl insL (x :: a) = x :: b.foldl insL a := by
  intro b
  induction b with
  | nil => intro a _; rfl
  | cons y b ih =>
    intro a h
    simp only [List.foldl_cons, insL]
    rw [if_pos (h y List.mem_cons_self), ih (fun z hz => h z (List.mem_cons_of_mem _ hz))]
theorem foldl_srt : ∀ {b : List Bd}, Srt b → b.foldl insL [] = b := by
  intro b
  induction b with
  | nil => intro _; rfl
  | cons y b ih =>
    intro h
    simp only [List.foldl_cons, insL]
    rw [foldl_skip h.1, ih h.2]
theorem foldl_mrg (a b : List Bd) : Srt a → Srt b → b.foldl insL a = mrg a b := by
 fun_induction mrg a b
 ·intro _ hb; exact foldl_srt hb
 ·intro _ _; rfl
 ·rename_i x a y b hxy ih
  intro ha hb
  rw [foldl_skip, ih ha.2 hb]
  intro z hz
  rcases List.mem_cons.1 hz with rfl | hz
  ·exact hxy
  ·exact leS_trans hxy (hb.1 z hz)
 ·rename_i x a y b hxy ih
  intro ha hb
  rw [List.foldl_cons, insL, if_neg hxy, foldl_skip hb.1, ih ha hb.2]
theorem insort_mrg (a b : List Bd) (ha : Srt a) (hb : Srt b) : insort 0 (a ++ b).length (a ++ b) = mrg a b := by
 rw [insort_eq, List.foldl_append, foldl_srt ha, foldl_mrg a b ha hb]
theorem partFrom_srt (n : Nat) : ∀ (l : List Bd) (p : Option ByteArray) (sn : List (Int × Int)), partFrom n p sn l = 0 → Srt l ∧ ∀ q, p = some q → ∀ x ∈ l, leS q x.var = true := by
  intro l
  induction l with
  | nil => intro p sn _; exact ⟨trivial, fun _ _ _ h => by cases h⟩
  | cons x l ih =>
    intro p sn h
    simp only [partFrom] at h
    split at h
    · cases h
    · rename_i hx
      split at h
      · rename_i h1; exact absurd h h1
      · obtain ⟨h1, h2⟩ := ih _ _ h
        refine ⟨⟨fun y hy => h2 _ rfl y hy, h1⟩, fun q hq y hy => ?_⟩
        subst hq
        have hqx : leS q x.var = true := by
          cases e : leS x.var q
          · exact leS_total e
          · exact absurd (.inr (.inl (by simpa using e))) hx
        rcases List.mem_cons.1 hy with rfl | hy
        · exact hqx
        · exact leS_trans hqx (h2 _ rfl y hy)
theorem part_srt {l : List Bd} (h : partErr l = 0) : Srt l := by
 unfold partErr at h
 split at h
 ·cases h
 ·exact (partFrom_srt _ l none [] h).1
theorem merge_spec (a b : List Bd) (ha : okP a) (hb : okP b) (hat : ∀ x ∈ a ++ b, x.ev.attrs.length * 48 ≤ 140737488355328) :
  PCalls Tryz.prog 106 [.agg [.sl (a.map encBd)], .agg [.sl (b.map encBd)]] (fun v => v = mergeV a b (mrg a b)) := by
 have hab : okP (a ++ b) := fun x hx => by
  rcases List.mem_append.1 hx with h | h
  ·exact ha x h
  ·exact hb x h
 by_cases h0 : a ++ b = []
 ·obtain ⟨rfl, rfl⟩ := List.append_eq_nil_iff.1 h0
  exact merge_nil.mono fun v h => by rw [h]; rw [mergeV, if_neg (by decide), mrg, if_neg (by decide)]; rfl
 by_cases hl : (a ++ b).length < 20
 ·refine (merge_gen a b ha hb hat (fun p => p = mrg a b) ⟨_, rfl⟩ h0 fun hx k => (sort_small (a ++ b) k hl).mono fun v σ' h => ⟨h.1, _, ?_, ?_, h.2⟩).mono fun v h => ?_
  ·intro x hx
   exact hab x ((insort_sub _ _ _).2 x hx)
  ·exact insort_mrg a b (part_srt (Decidable.not_not.1 fun h => hx (.inl h))) (part_srt (Decidable.not_not.1 fun h => hx (.inr h)))
  ·obtain ⟨p, rfl, rfl⟩ := h; rfl
 ·refine (merge_gen a b ha hb hat (fun p => 12 < p.length) ⟨a ++ b, by omega⟩ h0 fun hx k => ?_).mono fun v h => ?_
  ·have h1 : a.length ≤ 12 := by
    by_cases h : 12 < a.length
    ·exact absurd (.inl (by simp [partErr, h])) hx
    ·omega
   have h2 : b.length ≤ 12 := by
    by_cases h : 12 < b.length
    ·exact absurd (.inr (by simp [partErr, h])) hx
    ·omega
   refine (sort_weak (a ++ b) k (by rw [List.length_append]; omega)).mono fun v σ' h => ?_
   obtain ⟨h3, p, hp, h4⟩ := h
   exact ⟨h3, p, fun x hx => hab x (hp.2 x hx), by rw [hp.1]; omega, h4⟩
  ·obtain ⟨p, hp, rfl⟩ := h
   have h1 : partErr p ≠ 0 := by simp [partErr, hp]
   have hm := mrg_len a b
   rw [List.length_append] at hl
   have h2 : partErr (mrg a b) ≠ 0 := by simp [partErr, show 12 < (mrg a b).length by omega]
   rw [mergeV, mergeV, if_pos h1, if_pos h2]
theorem ba_list (x : UInt8) : (ByteArray.mk #[x]).toList = [x] := by simp
theorem leS_one (x y : UInt8) : leS ⟨#[x]⟩ ⟨#[y]⟩ = (decide (x < y) || x == y) := by
 simp only [leS, ba_list, Op.bytesLess]
 by_cases h : x < y <;> by_cases k : x = y <;> simp [h, k]
theorem allEq_refl {α : Type} {f : α → α → Bool} (h : ∀ x, f x x = true) : ∀ l : List α, allEq f l l = true
 | [] => rfl
 | x :: l => by simp [allEq, h, allEq_refl h l]
theorem eqAttr_refl (a : Attr) : eqAttr a a = true := by simp [eqAttr]
theorem eqEv_refl (a : Ev) : eqEv a a = true := by simp [eqEv, allEq_refl eqAttr_refl]
theorem eqBd_refl (a : Bd) : eqBd a a = true := by simp [eqBd, eqEv_refl]
structure okI (l : List Bd) : Prop where
  ok : okP l
  attrs : ∀ x ∈ l, x.ev.attrs.length * 48 ≤ 140737488355328
  len : l.length * 80 ≤ 140737488355328
def Aft (x y : Bd) : Prop := leS y.var x.var = false ∧ idOf x ≠ idOf y
theorem partFrom_iff (n : Nat) : ∀ (l : List Bd) (p : Option ByteArray) (sn : List (Int × Int)), partFrom n p sn l = 0 ↔
    (∀ b ∈ l, named n b = true ∧ evErr b.ev = 0 ∧ idOf b ∉ sn) ∧ l.Pairwise Aft ∧ (∀ q, p = some q → ∀ b ∈ l, leS b.var q = false) := by
  intro l
  induction l with
  | nil => intro p sn; simp [partFrom]
  | cons b l ih =>
    intro p sn
    have hid : idOf b = (b.ev.src, b.ev.seq) := rfl
    constructor
    · intro h
      simp only [partFrom] at h
      split at h
      · cases h
      · rename_i hx
        split at h
        · rename_i h1; exact absurd h h1
        · rename_i he
          have he : evErr b.ev = 0 := Decidable.not_not.1 he
          obtain ⟨h1, h2, h3⟩ := (ih _ _).1 h
          have hnm : named n b = true := by
            cases e : named n b
            · exact absurd (.inl e) hx
            · rfl
          have hsn : idOf b ∉ sn := fun e => hx (.inr (.inr (by rw [← hid]; exact e)))
          have hq : ∀ q, p = some q → leS b.var q = false := fun q hq => by
            subst hq
            cases e : leS b.var q
            · rfl
            · exact absurd (.inr (.inl (by simpa using e))) hx
          refine ⟨fun y hy => ?_, List.pairwise_cons.2 ⟨fun y hy => ⟨h3 _ rfl y hy, fun e => ?_⟩, h2⟩, fun q hpq y hy => ?_⟩
          · rcases List.mem_cons.1 hy with rfl | hy
            · exact ⟨hnm, he, hsn⟩
            · obtain ⟨a1, a2, a3⟩ := h1 y hy
              exact ⟨a1, a2, fun e => a3 (List.mem_append_left _ e)⟩
          · exact (h1 y hy).2.2 (by rw [← e, hid]; simp)
          · rcases List.mem_cons.1 hy with rfl | hy
            · exact hq q hpq
            · cases e : leS y.var q
              · rfl
              · have := leS_trans e (leS_total (hq q hpq))
                rw [h3 _ rfl y hy] at this; cases this
    · rintro ⟨h1, h2, h3⟩
      obtain ⟨a1, a2, a3⟩ := h1 b List.mem_cons_self
      obtain ⟨b1, b2⟩ := List.pairwise_cons.1 h2
      simp only [partFrom]
      rw [if_neg, if_neg (by rw [a2]; simp)]
      · refine (ih _ _).2 ⟨fun y hy => ?_, b2, fun q hq y hy => ?_⟩
        · obtain ⟨c1, c2, c3⟩ := h1 y (List.mem_cons_of_mem _ hy)
          refine ⟨c1, c2, fun e => ?_⟩
          rcases List.mem_append.1 e with e | e
          · exact c3 e
          · exact (b1 y hy).2 (by rw [hid]; simpa using (List.mem_singleton.1 e).symm)
        · cases hq; exact (b1 y hy).1
      · rintro (e | e | e)
        · rw [a1] at e; cases e
        · cases p with
          | none => simp at e
          | some q => simp at e; rw [h3 q rfl b List.mem_cons_self] at e; cases e
        · exact a3 (by rw [hid]; exact e)
theorem part_iff (l : List Bd) : partErr l = 0 ↔ l.length ≤ 12 ∧ (∀ b ∈ l, named l.length b = true ∧ evErr b.ev = 0) ∧ l.Pairwise Aft := by
 unfold partErr
 split
 ·simp; omega
 ·rw [partFrom_iff]
  simp
  omega
theorem mrg_perm (a b : List Bd) : (mrg a b).Perm (a ++ b) := by
 fun_induction mrg a b
 ·exact .refl _
 ·simp
 ·rename_i ih; exact .cons _ ih
 ·rename_i x a y b _ ih
  exact (List.Perm.cons y ih).trans List.perm_middle.symm
def mg (a b : List Bd) : Option (List Bd) := if partErr a = 0 ∧ partErr b = 0 ∧ partErr (mrg a b) = 0 then some (mrg a b) else none
def optV : Option (List Bd) → V
  | none => noPart
  | some p => .tup [.agg [.sl (p.map encBd)], .c (.bool true)]
theorem mergeV_eq (a b : List Bd) : mergeV a b (mrg a b) = optV (mg a b) := by
 unfold mergeV mg
 by_cases h1 : partErr a = 0 <;> by_cases h2 : partErr b = 0 <;> by_cases h3 : partErr (mrg a b) = 0 <;> simp [h1, h2, h3, optV]
theorem part_sub {p q : List Bd} (hp : partErr p = 0) (hs : Srt q) (hq : ∃ r, p.Perm (q ++ r)) : partErr q = 0 := by
  obtain ⟨r, hr⟩ := hq
  obtain ⟨h1, h2, h3⟩ := (part_iff p).1 hp
  have hl : p.length = q.length + r.length := by rw [hr.length_eq, List.length_append]
  refine (part_iff q).2 ⟨by omega, fun b hb => ?_, ?_⟩
  · obtain ⟨k1, k2⟩ := h2 b (hr.symm.subset (List.mem_append_left _ hb))
    refine ⟨?_, k2⟩
    unfold named at k1 ⊢
    simp only [Bool.or_eq_true, decide_eq_true_eq] at k1 ⊢
    rcases k1 with k | ⟨k, kn⟩
    · exact .inl k
    · have : 0 < q.length := List.length_pos_of_mem hb
      exact .inr ⟨k, by omega⟩
  · have h4 : p.Pairwise (fun x y => (leS x.var y.var = false ∨ leS y.var x.var = false) ∧ idOf x ≠ idOf y) := h3.imp fun k => ⟨.inr k.1, k.2⟩
    have h5 := (hr.pairwise_iff (fun {x y} k => ⟨k.1.symm, fun e => k.2 e.symm⟩)).1 h4
    have h6 := (List.pairwise_append.1 h5).1
    clear h5 h4 h3 hr h2 h1 hl hp
    induction q with
    | nil => exact .nil
    | cons x q ih =>
      obtain ⟨a1, a2⟩ := List.pairwise_cons.1 h6
      refine List.pairwise_cons.2 ⟨fun y hy => ?_, ih hs.2 a2⟩
      obtain ⟨b1, b2⟩ := a1 y hy
      refine ⟨?_, b2⟩
      rcases b1 with b | b
      · rw [hs.1 y hy] at b; cases b
      · exact b
theorem mg_some {a b p : List Bd} (h : mg a b = some p) : partErr a = 0 ∧ partErr b = 0 ∧ partErr p = 0 ∧ p = mrg a b := by
 unfold mg at h
 split at h
 ·rename_i hc; cases h; exact ⟨hc.1, hc.2.1, hc.2.2, rfl⟩
 ·cases h
def optL : Option (List Bd) → List Bd
  | none => []
  | some p => p
def optB : Option (List Bd) → Bool
  | none => false
  | some _ => true
theorem optV_eq (o : Option (List Bd)) : optV o = .tup [.agg [.sl ((optL o).map encBd)], .c (.bool (optB o))] := by cases o <;> rfl
structure okM (l : List Bd) : Prop where
  ok : okP l
  attrs : ∀ x ∈ l, x.ev.attrs.length * 48 ≤ 140737488355328
theorem okI.m {l : List Bd} (h : okI l) : okM l := ⟨h.ok, h.attrs⟩
theorem okM.mrg {a b : List Bd} (ha : okM a) (hb : okM b) : okM (mrg a b) := by
 refine ⟨fun x hx => ?_, fun x hx => ?_⟩ <;> rcases List.mem_append.1 (mrg_mem a b x hx) with h | h
 ·exact ha.ok x h
 ·exact hb.ok x h
 ·exact ha.attrs x h
 ·exact hb.attrs x h
theorem okM.mg {a b : List Bd} (ha : okM a) (hb : okM b) : okM (optL (mg a b)) := by
 cases h : Abs.M.mg a b with
 | none => exact ⟨(fun _ h => by cases h), (fun _ h => by cases h)⟩
 | some p => obtain ⟨_, _, _, rfl⟩ := mg_some h; exact ha.mrg hb
theorem mergeC {a b : List Bd} (ha : okM a) (hb : okM b) : PCalls Tryz.prog 106 [.agg [.sl (a.map encBd)], .agg [.sl (b.map encBd)]] (fun v => v = .tup [.agg [.sl ((optL (mg a b)).map encBd)], .c (.bool (optB (mg a b)))]) :=
 (merge_spec a b ha.ok hb.ok (fun x hx => by
  rcases List.mem_append.1 hx with h | h
  ·exact ha.attrs x h
  ·exact hb.attrs x h)).mono fun v h => by rw [h, mergeV_eq, optV_eq]
def cmpI (a b : Int) : Int := if a < b then -1 else if b < a then 1 else 0
theorem isnan_int (a : Int) : PCalls Tryz.prog 184 [.c (.int .i64 a)] (fun v => v = .c (.bool false)) := by
 refine PCalls.intro Tryz.call184 Tryz.func184 rfl Tryz.ntmps184 Tryz.results184 (by simp) ?_
 refine AW.sr trivial ?_
 refine AW.sr trivial ?_
 refine AW.ret ?_
 simp only [zs, simprocAttr]
 simp
theorem compare_int (a b : Int) : PCalls Tryz.prog 168 [.c (.int .i64 a), .c (.int .i64 b)] (fun v => v = .c (.int .i64 (cmpI a b))) := by
 refine PCalls.intro Tryz.call168 Tryz.func168 rfl Tryz.ntmps168 Tryz.results168 (by simp) ?_
 refine AW.sr trivial ?_
 refine AW.seq_k fun K2 h2 => ?_
 refine AW.reg0 ?_
 refine S.one trivial ?_
 (refine S.g rfl rfl fun Y Z => ?_; simp only [zz, simprocAttr, -Int.reduceNatCast', -Int.reduceToNat]; refine PCalls.eqto (isnan_int _) ?_ <;> (refine Z _ _ ?_; clear Z Y))
 all_goals refine S.one trivial ?_
 all_goals (refine S.nil ?_; simp only [ze, simprocAttr]; apply_assumption)
 refine AW.seq_k fun K3 h3 => ?_
 all_goals refine AW.reg0 ?_
 all_goals refine S.one trivial ?_
 all_goals (refine S.g rfl rfl fun Y Z => ?_; simp only [zz, simprocAttr, -Int.reduceNatCast', -Int.reduceToNat]; refine PCalls.eqto (isnan_int _) ?_ <;> (refine Z _ _ ?_; clear Z Y))
 all_goals refine S.one trivial ?_
 all_goals (refine S.nil ?_; simp only [ze, simprocAttr]; apply_assumption)
 refine AW.seq_k fun K4 h4 => ?_
 all_goals refine AW.sr trivial ?_
 refine AW.cond (b := false) (by simp [ev]) (fun hc => by cases hc) (fun hc => AW.skip ?_)
 all_goals simp only [zs, simprocAttr]
 all_goals apply_assumption
 refine AW.seq_k fun K6 h6 => ?_
 all_goals refine AW.sr trivial ?_
 refine AW.cond (b := false) (by simp [ev]) (fun hc => by cases hc) (fun hc => AW.skip ?_)
 all_goals simp only [zs, simprocAttr]
 all_goals apply_assumption
 refine AW.seq_k fun K8 h8 => ?_
 all_goals refine AW.sr trivial ?_
 refine AW.cond (b := decide (a < b)) (by simp [ev]) (fun hc => ?_) (fun hc => ?_)
 ·have hc := of_decide_eq_true hc
  refine AW.sr trivial ?_
  refine AW.ret ?_
  simp only [zs, simprocAttr]
  simp [cmpI, hc]
 ·have hc := of_decide_eq_false hc
  refine AW.skip ?_
  simp only [zs, simprocAttr]
  all_goals apply_assumption
  refine AW.seq_k fun K11 h11 => ?_
  refine AW.sr trivial ?_
  refine AW.cond (b := decide (a > b)) (by simp [ev]) (fun hd => ?_) (fun hd => ?_)
  ·have hd := of_decide_eq_true hd
   refine AW.sr trivial ?_
   refine AW.ret ?_
   simp only [zs, simprocAttr]
   rw [cmpI, if_neg hc, if_pos hd]
  ·have hd := of_decide_eq_false hd
   refine AW.skip ?_
   simp only [zs, simprocAttr]
   all_goals apply_assumption
   refine AW.sr trivial ?_
   refine AW.ret ?_
   simp only [zs, simprocAttr]
   rw [cmpI, if_neg hc, if_neg hd]
theorem isnan_i64 (a : Int) : PCalls Tryz.prog 185 [.c (.int .i64 a)] (fun v => v = .c (.bool false)) := by
 refine PCalls.intro Tryz.call185 Tryz.func185 rfl Tryz.ntmps185 Tryz.results185 (by simp) ?_
 refine AW.sr trivial ?_
 refine AW.sr trivial ?_
 refine AW.ret ?_
 simp only [zs, simprocAttr]
 simp
theorem compare_i64 (a b : Int) : PCalls Tryz.prog 169 [.c (.int .i64 a), .c (.int .i64 b)] (fun v => v = .c (.int .i64 (cmpI a b))) := by
 refine PCalls.intro Tryz.call169 Tryz.func169 rfl Tryz.ntmps169 Tryz.results169 (by simp) ?_
 refine AW.sr trivial ?_
 refine AW.seq_k fun K2 h2 => ?_
 refine AW.reg0 ?_
 refine S.one trivial ?_
 (refine S.g rfl rfl fun Y Z => ?_; simp only [zz, simprocAttr, -Int.reduceNatCast', -Int.reduceToNat]; refine PCalls.eqto (isnan_i64 _) ?_ <;> (refine Z _ _ ?_; clear Z Y))
 all_goals refine S.one trivial ?_
 all_goals (refine S.nil ?_; simp only [ze, simprocAttr]; apply_assumption)
 refine AW.seq_k fun K3 h3 => ?_
 all_goals refine AW.reg0 ?_
 all_goals refine S.one trivial ?_
 all_goals (refine S.g rfl rfl fun Y Z => ?_; simp only [zz, simprocAttr, -Int.reduceNatCast', -Int.reduceToNat]; refine PCalls.eqto (isnan_i64 _) ?_ <;> (refine Z _ _ ?_; clear Z Y))
 all_goals refine S.one trivial ?_
 all_goals (refine S.nil ?_; simp only [ze, simprocAttr]; apply_assumption)
 refine AW.seq_k fun K4 h4 => ?_
 all_goals refine AW.sr trivial ?_
 refine AW.cond (b := false) (by simp [ev]) (fun hc => by cases hc) (fun hc => AW.skip ?_)
 all_goals simp only [zs, simprocAttr]
 all_goals apply_assumption
 refine AW.seq_k fun K6 h6 => ?_
 all_goals refine AW.sr trivial ?_
 refine AW.cond (b := false) (by simp [ev]) (fun hc => by cases hc) (fun hc => AW.skip ?_)
 all_goals simp only [zs, simprocAttr]
 all_goals apply_assumption
 refine AW.seq_k fun K8 h8 => ?_
 all_goals refine AW.sr trivial ?_
 refine AW.cond (b := decide (a < b)) (by simp [ev]) (fun hc => ?_) (fun hc => ?_)
 ·have hc := of_decide_eq_true hc
  refine AW.sr trivial ?_
  refine AW.ret ?_
  simp only [zs, simprocAttr]
  simp [cmpI, hc]
 ·have hc := of_decide_eq_false hc
  refine AW.skip ?_
  simp only [zs, simprocAttr]
  all_goals apply_assumption
  refine AW.seq_k fun K11 h11 => ?_
  refine AW.sr trivial ?_
  refine AW.cond (b := decide (a > b)) (by simp [ev]) (fun hd => ?_) (fun hd => ?_)
  ·have hd := of_decide_eq_true hd
   refine AW.sr trivial ?_
   refine AW.ret ?_
   simp only [zs, simprocAttr]
   rw [cmpI, if_neg hc, if_pos hd]
  ·have hd := of_decide_eq_false hd
   refine AW.skip ?_
   simp only [zs, simprocAttr]
   all_goals apply_assumption
   refine AW.sr trivial ?_
   refine AW.ret ?_
   simp only [zs, simprocAttr]
   rw [cmpI, if_neg hc, if_neg hd]
def orI : List Int → Int
  | [] => 0
  | a :: l => if a ≠ 0 then a else orI l
theorem or_spec (l : List Int) (hl : l.length < 4611686018427387904) : PCalls Tryz.prog 135 [.sl (l.map encI)] (fun v => v = .c (.int .i64 (orI l))) := by
 refine PCalls.intro Tryz.call135 Tryz.func135 rfl Tryz.ntmps135 Tryz.results135 (by simp) ?_
 refine AW.sr trivial ?_
 refine AW.sr trivial ?_
 refine AW.seq_k fun K3 h3 => ?_
 refine AW.sr trivial ?_
 refine AW.block ?_   -- 0
 refine AW.loop (fun m s σ => σ = Hp.empty ∧ ∃ i : Nat, m + i = l.length ∧ s.t 3 = .c (.int .i64 0) ∧ s.t 6 = .sl (l.map encI) ∧ s.t 7 = .c (.int .i64 l.length) ∧ s.t 8 = .c (.int .i64 i) ∧ orI l = orI (l.drop i)) l.length ?_ ?_
 ·refine ⟨rfl, 0, by simp, ?_⟩
  simp only [zs, simprocAttr]
  simp
 rintro m s σ ⟨rfl, i, hm, e3, e6, e7, e8, hp⟩
 all_goals refine AW.sr (J2 e7 e8) ?_
 refine AW.seq_k fun K6 h6 => ?_
 refine AW.cond (b := decide (i < l.length)) (by simp [ev]) (fun hc => ?_) (fun hc => ?_)
 ·refine AW.skip ?_
  simp only [zs, simprocAttr]
  all_goals apply_assumption
  have hi : i < l.length := by simpa using hc
  have hg := getD_map (f := encI) hi
  have hd : l.drop i = l[i] :: l.drop (i + 1) := List.drop_eq_getElem_cons hi
  generalize ha : l[i] = a at hg hd
  have hw : IntKind.i64.wrap ((i : Int) + 1) = ((i + 1 : Nat) : Int) := by rw [wrap_small _ (by omega) (by omega)]; rfl
  rw [hd, orI] at hp
  refine AW.seq_k fun K7 h7 => ?_
  refine AW.block ?_   -- 1
  refine AW.sr (J5 e6 e8 hi hg @encI.eq_1) ?_
  refine AW.sr e3 ?_
  refine AW.cond (b := a != 0) (by simp [ev]) (fun hx => ?_) (fun hx => ?_)
  ·have hx : a ≠ 0 := by simpa using hx
   refine AW.sr trivial ?_
   refine AW.ret ?_
   simp only [zs, simprocAttr]
   rw [hp, if_pos hx]
  ·have hx : ¬ a ≠ 0 := by simpa using hx
   rw [if_neg hx] at hp
   refine AW.skip ?_
   simp only [zs, simprocAttr]
   all_goals apply_assumption
   refine AW.reg0 (S.rn (J2 e8 hw) ?_)
   simp only [ze, simprocAttr, e8, hw]
   exact ⟨m - 1, by omega, i + 1, by omega, e3, e6, e7, rfl, hp⟩
 ·refine AW.exit ?_
  simp only [zs, simprocAttr]
  all_goals apply_assumption
  have hi : l.length ≤ i := by simpa using hc
  refine AW.sr e3 ?_
  refine AW.ret ?_
  simp only [zs, simprocAttr]
  rw [hp, List.drop_of_length_le hi]; rfl
def encId (p : Int × Int) : List V := [.c (.int .i64 p.1), .c (.int .i64 p.2)]
def cmpId (a b : Int × Int) : Int := orI [cmpI a.1 b.1, cmpI a.2 b.2]
theorem compare_id (a b : Int × Int) : PCalls Tryz.prog 137 [.agg (encId a), .agg (encId b)] (fun v => v = .c (.int .i64 (cmpId a b))) := by
 refine PCalls.intro Tryz.call137 Tryz.func137 rfl Tryz.ntmps137 Tryz.results137 (by simp) ?_
 refine AW.sr @encId.eq_1 ?_
 refine AW.seq_k fun K2 h2 => ?_
 refine AW.dv { sd := fun d => d == 2 || d == 3 } [(0,0),(2,0),(5,0),(7,0),(1,1),(3,1),(6,1),(8,1),(4,2),(9,2),(10,2),(11,2),(12,0)] ?_
 iterate 4 refine D.one trivial ?_
 iterate 4 refine D.one trivial ?_
 (refine D.g rfl trivial rfl rfl fun Y Z => ?_; simp only [zz, simprocAttr, -Int.reduceNatCast', -Int.reduceToNat]; refine PCalls.eqto (compare_int _ _) ?_ <;> (refine Z _ _ ?_; clear Z Y))
 all_goals (refine D.g rfl trivial rfl rfl fun Y Z => ?_; simp only [zz, simprocAttr, -Int.reduceNatCast', -Int.reduceToNat]; refine PCalls.eqto (compare_i64 _ _) ?_ <;> (refine Z _ _ ?_; clear Z Y))
 all_goals (refine D.g rfl trivial rfl rfl fun Y Z => ?_; simp only [zb, simprocAttr, -Int.reduceNatCast', -Int.reduceToNat, tt]; refine ⟨rfl, (by simp), ?_⟩ <;> (refine Z _ _ ?_; clear Z Y))
 all_goals (refine D.g rfl trivial rfl rfl fun Y Z => ?_; simp only [zz, simprocAttr, -Int.reduceNatCast', -Int.reduceToNat]; refine PCalls.eqto (or_spec [cmpI a.1 b.1, cmpI a.2 b.2] (by simp)) ?_ <;> (refine Z _ _ ?_; clear Z Y))
 all_goals refine D.one trivial ?_
 all_goals (refine D.nil ?_; apply_assumption)
 refine AW.ret ?_
 all_goals simp only [zs, simprocAttr]
 all_goals rfl
end Go.Abs.M
