import Derived.Test.YtkijhgplmikboaaGreatDoorOfd
import Derived.Deep.Slices
import Derived.Test.YtkijhgplmikboaaGreatDoorRows
import Derived.Deep.DeepHandedRow
import Derived.Lib.LaidTab
set_option linter.all false
set_option maxHeartbeats 4000000
namespace Go.Abs.M
open Go Go.Abs Go.Proofs
set_option maxRecDepth 20000
def badF (term : Bool) (i : Int) (f : Int) : Bool := (term && f != -1) || (!term && (decide (f < 0) || decide (f ≥ i)))
theorem bad_spec (term : Bool) (i f : Int) : PCalls Tryz.prog 50 [.c (.int .i64 f), capZ [.c (.bool term)], capZ [.c (.int .i64 i)]] (fun v => v = .c (.bool (badF term i f))) := by
 refine PCalls.intro Tryz.call50 Tryz.func50 rfl Tryz.ntmps50 Tryz.results50 (by simp) ?_
 refine AW.sr @capZ.eq_1 ?_
 refine AW.seq_j (fun s' σ' => σ' = Hp.empty ∧ s'.t 4 = .c (.bool (badF term i f))) ?_ ?_
 ·cases term
  all_goals refine AW.reg0 ?_
  all_goals iterate 3 refine S.one @capZ.eq_1 ?_
  all_goals (first | (refine S.sp @capZ.eq_1 fun b a8 => ?_; cases b <;> (try exact nope a8)) | ((first | refine S.x rfl rfl rfl rfl fun Y Z => ?_ | refine S.u rfl rfl rfl rfl fun Y Z => ?_); simp only [ze, simprocAttr, -Int.reduceNatCast', -Int.reduceToNat]; refine Z _ _ ?_; clear Z Y))
  all_goals iterate 6 refine S.one @capZ.eq_1 ?_
  all_goals (first | (refine S.sp @capZ.eq_1 fun b a15 => ?_; cases b <;> (try exact nope a15)) | ((first | refine S.x rfl rfl rfl rfl fun Y Z => ?_ | refine S.u rfl rfl rfl rfl fun Y Z => ?_); simp only [ze, simprocAttr, -Int.reduceNatCast', -Int.reduceToNat]; refine Z _ _ ?_; clear Z Y))
  all_goals iterate 8 refine S.one @capZ.eq_1 ?_
  all_goals refine S.nil ?_
  all_goals simp only [ze, simprocAttr, capZ]
  all_goals first | (simp_all [badF]; done) | (simp_all [badF] <;> (intros; first | omega | (simp_all; done) | (simp_all; omega)))
 rintro s σ ⟨rfl, e4⟩
 refine AW.ret ?_
 all_goals simp only [zs, simprocAttr, e4]
 all_goals ((try and_intros) <;> first | rfl | assumption | (rfl))
def opBad (x : Pln) (w0 : Int) (i : Nat) (o : OpS) (f : List Int) : Bool :=
  (opErr o != 0) || ((o.ins != (f.length : Nat)) || ((o.win != w0) || (f.any (badF (o.kind == 1) (i : Nat)) || (((o.kind == 5) != ((i : Int) == (x.ops.length : Nat) - 1)) || (!((i : Int) == (x.ops.length : Nat) - 1) && ((((usesAll (i : Nat) 0 x.from_).length : Int) == 0) || decide (((usesAll (i : Nat) 0 x.from_).length : Int) > 64)))))))
def winOf (x : Pln) : Int := match x.ops[0]? with | some o => o.win | none => 0
def badAt (x : Pln) (i : Nat) : Bool := match x.ops[i]?, x.from_[i]? with
  | some o, some f => opBad x (winOf x) i o f
  | _, _ => false
def cntBad (x : Pln) : Bool := decide ((x.ops.length : Int) < 2) || (decide ((x.ops.length : Int) > 32) || ((x.from_.length : Int) != (x.ops.length : Int)))
def planErr (x : Pln) : Int := if cntBad x then 150 else if (List.range x.ops.length).any (badAt x) then 150 else 0
structure okPlN (x : Pln) : Prop where
  op : ∀ o ∈ x.ops, okOpN o
  small : smallPl x
theorem planCheck_spec (x : Pln) (hx : okPlN x) : PCalls Tryz.prog 14 [.agg (encPl x)] (fun v => v = .c (.int .i64 (planErr x))) := by
 obtain ⟨hs1, hs2, hs3⟩ := hx.small
 refine PCalls.intro Tryz.call14 Tryz.func14 rfl Tryz.ntmps14 Tryz.results14 (by simp) ?_
 refine AW.sr @encPl.eq_1 ?_
 refine AW.sr @List.length_map.{0,0} ?_
 refine AW.seq_j (fun s' σ' => σ' = Hp.empty ∧ cntBad x = false ∧ s'.t 1 = .lp 1 0 ∧ s'.l 1 = some [.sl (x.ops.map encOp), .sl (x.from_.map encF)] ∧ s'.t 3 = .c (.int .i64 (x.ops.length : Nat))) ?_ ?_
 ·refine AW.seq_j (fun s' σ' => σ' = Hp.empty ∧ s'.t 25 = .c (.bool (cntBad x)) ∧ s'.t 1 = .lp 1 0 ∧ s'.l 1 = some [.sl (x.ops.map encOp), .sl (x.from_.map encF)] ∧ s'.t 3 = .c (.int .i64 (x.ops.length : Nat))) ?_ ?_
  ·skip
   refine AW.reg0 ?_
   refine S.one @List.length_map.{0,0} ?_
   (refine S.sp @List.length_map.{0,0} fun b a14 => ?_; cases b <;> (try exact nope a14))
   all_goals iterate 2 refine S.one @List.length_map.{0,0} ?_
   all_goals (first | (refine S.sp @List.length_map.{0,0} fun b a17 => ?_; cases b <;> (try exact nope a17)) | ((first | refine S.x rfl rfl rfl rfl fun Y Z => ?_ | refine S.u rfl rfl rfl rfl fun Y Z => ?_); simp only [ze, simprocAttr, -Int.reduceNatCast', -Int.reduceToNat]; refine Z _ _ ?_; clear Z Y))
   all_goals iterate 8 refine S.one @List.length_map.{0,0} ?_
   all_goals refine S.nil ?_
   all_goals simp only [ze, simprocAttr, List.length_map]
   all_goals
   unfold cntBad
   first
    | (have b1 := of_decide_eq_false a14; have b2 := of_decide_eq_false a17; rw [decide_eq_false b1, decide_eq_false b2]; rfl)
    | (have b1 := of_decide_eq_false a14; have b2 := of_decide_eq_true a17; rw [decide_eq_false b1, decide_eq_true b2]; rfl)
    | (have b1 := of_decide_eq_true a14; rw [decide_eq_true b1]; rfl)
  rintro s σ ⟨rfl, e25, e1, l1, e3⟩
  refine AW.cond (b := cntBad x) e25 (fun hb => ?_) (fun hb => ?_)
  ·refine AW.sr trivial ?_
   refine AW.ret ?_
   simp only [zs, simprocAttr]
   rw [planErr, if_pos hb]
  ·refine AW.skip ?_
   exact ⟨rfl, hb, e1, l1, e3⟩
 rintro s σ ⟨rfl, hcb, e1, l1, e3⟩
 have hn : 2 ≤ x.ops.length ∧ x.ops.length ≤ 32 ∧ x.from_.length = x.ops.length := by
  simp only [cntBad, Bool.or_eq_false_iff, decide_eq_false_iff_not, bne_eq_false_iff_eq] at hcb
  omega
 obtain ⟨hn1, hn2, hn3⟩ := hn
 have hpe : planErr x = if (List.range x.ops.length).any (badAt x) then 150 else 0 := by rw [planErr, hcb, if_neg Bool.false_ne_true]
 refine AW.seq_k fun K4 h4 => ?_
 all_goals refine AW.sr (J4 e1 l1 e3 @List.length_map.{0,0}) ?_
 refine AW.block ?_   -- 0
 refine AW.loop (fun m s' σ' => σ' = Hp.empty ∧ ∃ i : Nat, m + i = x.ops.length ∧ (∀ j < i, badAt x j = false) ∧ s'.t 1 = .lp 1 0 ∧ s'.l 1 = some [.sl (x.ops.map encOp), .sl (x.from_.map encF)] ∧ s'.t 3 = .c (.int .i64 (x.ops.length : Nat)) ∧ s'.t 27 = .sl (x.ops.map encOp) ∧ s'.t 28 = .c (.int .i64 (x.ops.length : Nat)) ∧ s'.t 29 = .c (.int .i64 (i : Nat))) x.ops.length ?_ ?_
 ·refine ⟨rfl, 0, by simp, fun j h => absurd h (Nat.not_lt_zero j), ?_⟩
  simp only [zs, simprocAttr, e1, l1, e3]
  all_goals ((try and_intros) <;> first | rfl | assumption | (rfl))
 clear e1 l1 e3 s
 rintro m s σ ⟨rfl, i, hm, hb, e1, l1, e3, e27, e28, e29⟩
 all_goals refine AW.sr (J2 e28 e29) ?_
 refine AW.seq_k fun K7 h7 => ?_
 refine AW.cond (b := decide (i < x.ops.length)) (by simp [ev]) (fun hi => ?_) (fun hi => ?_)
 ·have hi := of_decide_eq_true hi
  have hi2 : i < x.from_.length := by omega
  have h0 : 0 < x.ops.length := by omega
  have hw := wadd1 (a := i) (by omega)
  have hg := getD_map (f := encOp) hi
  have hg2 := getD_map (f := encF) hi2
  have hg0 := getD_map (f := encOp) h0
  have hom : x.ops[i] ∈ x.ops := List.getElem_mem hi
  have hfm : x.from_[i] ∈ x.from_ := List.getElem_mem hi2
  have hw0 : winOf x = x.ops[0].win := by rw [winOf, List.getElem?_eq_getElem h0]
  have hba : badAt x i = opBad x (x.ops[0].win) i x.ops[i] x.from_[i] := by rw [badAt, List.getElem?_eq_getElem hi, List.getElem?_eq_getElem hi2, ← hw0]
  generalize x.ops[i] = o at hg hom hba
  generalize x.from_[i] = f at hg2 hfm hba
  generalize x.ops[0] = o0 at hg0 hba
  have hfl := len_sum hfm
  have hal := usesAll_len (i : Nat) x.from_ 0
  refine AW.skip ?_
  all_goals simp only [zs, simprocAttr]
  all_goals apply_assumption
  refine AW.seq_j (fun s' σ' => σ' = Hp.empty ∧ badAt x i = false ∧ s'.t 1 = .lp 1 0 ∧ s'.l 1 = some [.sl (x.ops.map encOp), .sl (x.from_.map encF)] ∧ s'.t 3 = .c (.int .i64 (x.ops.length : Nat)) ∧ s'.t 27 = .sl (x.ops.map encOp) ∧ s'.t 28 = .c (.int .i64 (x.ops.length : Nat)) ∧ s'.t 29 = .c (.int .i64 (i : Nat))) ?_ ?_
  ·refine AW.block ?_   -- 1
   refine AW.sr (J10 e1 l1 e3 e27 e28 e29 hi hg @encOp.eq_1 @List.length_map.{0,0}) ?_
   refine AW.seq_j (fun s' σ' => σ' = Hp.empty ∧ s'.t 1 = .lp 1 0 ∧ s'.l 1 = some [.sl (x.ops.map encOp), .sl (x.from_.map encF)] ∧ s'.t 3 = .c (.int .i64 (x.ops.length : Nat)) ∧ s'.t 27 = .sl (x.ops.map encOp) ∧ s'.t 28 = .c (.int .i64 (x.ops.length : Nat)) ∧ s'.t 29 = .c (.int .i64 (i : Nat)) ∧
    s'.t 4 = .lp 4 0 ∧ s'.l 4 = some [.c (.int .i64 (i : Nat))] ∧ s'.t 5 = .lp 5 0 ∧ s'.l 5 = some (encOp o) ∧ s'.t 6 = .lp 6 0 ∧ s'.l 6 = some [.c (.bool (o.kind == 1))]) ?_ ?_
   ·skip
    refine AW.reg0 (S.rn (J6 e1 l1 e3 e27 e28 e29) ?_)
    simp only [ze, simprocAttr, e1, l1, e3, e27, e28, e29]
    all_goals ((try and_intros) <;> first | rfl | assumption | (rfl))
   clear e1 l1 e3 e27 e28 e29 s
   rintro s σ ⟨rfl, e1, l1, e3, e27, e28, e29, e4, l4, e5, l5, e6, l6⟩
   refine AW.hushBox l4 (by simp) ?_
   refine AW.hushBox (d := 6) (cells := [.c (.bool (o.kind == 1))]) (by simp [l6]) (by simp) ?_
   refine AW.st (fun s' => s'.t 1 = .lp 1 0 ∧ s'.l 1 = some [.sl (x.ops.map encOp), .sl (x.from_.map encF)] ∧ s'.t 3 = .c (.int .i64 (x.ops.length : Nat)) ∧ s'.t 27 = .sl (x.ops.map encOp) ∧ s'.t 28 = .c (.int .i64 (x.ops.length : Nat)) ∧ s'.t 29 = .c (.int .i64 (i : Nat)) ∧
    s'.t 4 = capZ [.c (.int .i64 (i : Nat))] ∧ s'.t 5 = .lp 5 0 ∧ s'.l 5 = some (encOp o) ∧ s'.t 6 = capZ [.c (.bool (o.kind == 1))]) ?_ ?_
   ·refine ⟨?_, ?_, ?_, ?_, ?_, ?_, ?_, ?_, ?_, ?_⟩ <;> simp [e1, l1, e3, e27, e28, e29, e4, e5, l5, e6, bxV, capZ]
   clear e1 l1 e3 e27 e28 e29 e4 l4 e5 l5 e6 l6 s
   rintro s ⟨e1, l1, e3, e27, e28, e29, e4, e5, l5, e6⟩
   refine AW.sr (J11 e1 l1 e3 e27 e28 e29 e4 e5 l5 e6 @capZ_ok) ?_
   have hsub : IntKind.i64.wrap ((x.ops.length : Int) - 1) = (x.ops.length : Int) - 1 := wrap_small _ (by omega) (by omega)
   refine AW.sr (J12 e1 l1 e3 e27 e28 e29 e4 e5 l5 e6 @capZ.eq_1 hsub) ?_
   refine AW.seq_k fun K11 h11 => ?_
   refine AW.reg0 ?_
   iterate 2 refine S.one (J12 e1 l1 e3 e27 e28 e29 e4 e5 l5 e6 @capZ.eq_1 @List.length_map.{0,0}) ?_
   (refine S.g rfl rfl fun Y Z => ?_; simp only [zz, simprocAttr, -Int.reduceNatCast', -Int.reduceToNat, e1, l1, e3, e27, e28, e29, e4, e5, l5, e6, capZ, List.length_map]; refine PCalls.eqto (uses_spec x hx.small i) ?_ <;> (refine Z _ _ ?_; clear Z Y))
   all_goals iterate 2 refine S.one (J12 e1 l1 e3 e27 e28 e29 e4 e5 l5 e6 @capZ.eq_1 @List.length_map.{0,0}) ?_
   all_goals (refine S.nil ?_; simp only [ze, simprocAttr, e1, l1, e3, e27, e28, e29, e4, e5, l5, e6, capZ, List.length_map]; apply_assumption)
   refine AW.st (fun s' => s'.t 1 = .lp 1 0 ∧ s'.l 1 = some [.sl (x.ops.map encOp), .sl (x.from_.map encF)] ∧ s'.t 3 = .c (.int .i64 (x.ops.length : Nat)) ∧ s'.t 27 = .sl (x.ops.map encOp) ∧ s'.t 28 = .c (.int .i64 (x.ops.length : Nat)) ∧ s'.t 29 = .c (.int .i64 (i : Nat)) ∧
    s'.t 4 = capZ [.c (.int .i64 (i : Nat))] ∧ s'.t 5 = .lp 5 0 ∧ s'.l 5 = some (encOp o) ∧ s'.t 7 = .fn (.func 50) [] [capZ [.c (.bool (o.kind == 1))], capZ [.c (.int .i64 (i : Nat))]] ∧ s'.t 8 = .c (.bool ((i : Int) == (x.ops.length : Nat) - 1)) ∧ s'.t 9 = .c (.int .i64 ((usesAll (i : Nat) 0 x.from_).length : Nat))) ?_ ?_
   ·simp only [zs, simprocAttr, e1, l1, e3, e27, e28, e29, e4, e5, l5, e6]
    all_goals ((try and_intros) <;> first | rfl | assumption | (rfl))
   clear e1 l1 e3 e27 e28 e29 e4 e5 l5 e6 s
   rintro s ⟨e1, l1, e3, e27, e28, e29, e4, e5, l5, e7, e8, e9⟩
   refine AW.seq_j (fun s' σ' => σ' = Hp.empty ∧ s'.t 97 = .c (.bool (badAt x i)) ∧ s'.t 1 = .lp 1 0 ∧ s'.l 1 = some [.sl (x.ops.map encOp), .sl (x.from_.map encF)] ∧ s'.t 3 = .c (.int .i64 (x.ops.length : Nat)) ∧ s'.t 27 = .sl (x.ops.map encOp) ∧ s'.t 28 = .c (.int .i64 (x.ops.length : Nat)) ∧ s'.t 29 = .c (.int .i64 (i : Nat))) ?_ ?_
   ·have h0i : (0 : Int) < ((x.ops.length : Nat) : Int) := by omega
    have hei : ((x.ops.map encOp).getD 0 []) = encOp o0 := hg0
    unfold encOp at l5
    generalize hlast : ((i : Int) == (x.ops.length : Nat) - 1) = last at e8
    cases last
    all_goals refine AW.dT { sd := fun d => d == 1 || d == 5 } (.st 0 1 (.st 1 2 (.st 2 0 (.st 3 0 (.st 4 0 (.st 6 0 (.st 5 1 (.st 7 1 (.st 8 1 (.st 9 0 (.st 10 1 (.st 11 0 (.st 12 0 (.st 13 0 (.st 14 0 (.st 15 0 (.st 17 0 (.st 16 1 (.st 18 1 (.st 19 0 (.st 20 0 (.st 21 1 (.st 22 0 (.st 23 0 (.st 24 0 (.st 25 0 (.st 30 0 (.st 26 1 (.st 27 1 (.st 28 0 (.st 29 1 (.st 31 2 (.st 32 0 (.st 33 0 (.st 34 0 (.st 37 0 (.st 35 1 (.st 36 0 (.st 38 0 (.st 39 0 (.st 40 0 (.st 41 0 (.st 42 0 (.st 43 0 (.st 44 0 (.st 45 0 (.st 46 0 (.st 47 0 (.st 48 0 (.st 49 0 (.st 50 0 (.st 51 0 .nil)))))))))))))))))))))))))))))))))))))))))))))))))))) ?_
    all_goals refine T.onf (J12 @Bool.or_self @kill.eq_1 @kill.eq_2 e1 l1 e3 e27 e28 e29 e4 e5 (J12 l5 e7 e8 e9 @capZ.eq_1 hi hi2 hg hg2 hei h0 (J6 h0i @encOp.eq_1 @encF.eq_1 @Int.toNat_zero @Int.le_refl @List.length_map.{0,0}))) ?_
    all_goals (refine T.g rfl trivial rfl rfl fun Y Z => ?_; simp only [zz, simprocAttr, -Int.reduceNatCast', -Int.reduceToNat, Nat.reduceBEq, Bool.or_self, kill, e1, l1, e3, e27, e28, e29, e4, e5, l5, e7, e8, e9, capZ, hi, hi2, hg, hg2, hei, h0, h0i, encOp, encF, Int.toNat_zero, Int.le_refl, List.length_map]; refine PCalls.eqto (operCheck_spec o (hx.op o hom)) ?_ <;> (refine Z _ _ ?_; clear Z Y))
    all_goals (refine T.sq (J12 @Bool.or_self @kill.eq_1 @kill.eq_2 e1 l1 e3 e27 e28 e29 e4 e5 (J12 l5 e7 e8 e9 @capZ.eq_1 hi hi2 hg hg2 hei h0 (J6 h0i @encOp.eq_1 @encF.eq_1 @Int.toNat_zero @Int.le_refl @List.length_map.{0,0}))) fun b a48 => ?_; cases b <;> (try exact nope a48))
    all_goals refine T.onf (J12 @Bool.or_self @kill.eq_1 @kill.eq_2 e1 l1 e3 e27 e28 e29 e4 e5 (J12 l5 e7 e8 e9 @capZ.eq_1 hi hi2 hg hg2 hei h0 (J6 h0i @encOp.eq_1 @encF.eq_1 @Int.toNat_zero @Int.le_refl @List.length_map.{0,0}))) ?_
    all_goals iterate 2 (first | (refine T.y rfl trivial rfl rfl rfl rfl fun Y Z => ?_; simp only [zz, simprocAttr, -Int.reduceNatCast', -Int.reduceToNat, tt, Nat.reduceBEq, Bool.or_self, kill, e1, l1, e3, e27, e28, e29, e4, e5, l5, e7, e8, e9, capZ, hi, hi2, hg, hg2, hei, h0, h0i, encOp, encF, Int.toNat_zero, Int.le_refl, List.length_map]; refine Z _ _ ?_; clear Z Y) | ((first | refine T.x rfl (fun h => by cases h) rfl rfl rfl rfl fun Y Z => ?_ | refine T.u rfl (fun h => by cases h) rfl rfl rfl rfl fun Y Z => ?_); simp only [ze, simprocAttr, -Int.reduceNatCast', -Int.reduceToNat]; refine Z _ _ ?_; clear Z Y))
    all_goals iterate 3 (first | (refine T.y rfl (by first | rfl | (simp only [stC, ze, simprocAttr, -Int.reduceNatCast', -Int.reduceToNat, Nat.reduceBEq, Bool.or_self, kill, e1, l1, e3, e27, e28, e29, e4, e5, l5, e7, e8, e9, capZ, hi, hi2, hg, hg2, hei, h0, h0i, encOp, encF, Int.toNat_zero, Int.le_refl, List.length_map]; first | done | rfl)) rfl rfl rfl rfl fun Y Z => ?_; simp only [zz, simprocAttr, -Int.reduceNatCast', -Int.reduceToNat, tt, Nat.reduceBEq, Bool.or_self, kill, e1, l1, e3, e27, e28, e29, e4, e5, l5, e7, e8, e9, capZ, hi, hi2, hg, hg2, hei, h0, h0i, encOp, encF, Int.toNat_zero, Int.le_refl, List.length_map]; refine Z _ _ ?_; clear Z Y) | ((first | refine T.x rfl (fun _ => rfl) rfl rfl rfl rfl fun Y Z => ?_ | refine T.u rfl (fun _ => rfl) rfl rfl rfl rfl fun Y Z => ?_); simp only [ze, simprocAttr, -Int.reduceNatCast', -Int.reduceToNat]; refine Z _ _ ?_; clear Z Y))
    all_goals (first | (refine T.y rfl trivial rfl rfl rfl rfl fun Y Z => ?_; simp only [zz, simprocAttr, -Int.reduceNatCast', -Int.reduceToNat, tt, Nat.reduceBEq, Bool.or_self, kill, e1, l1, e3, e27, e28, e29, e4, e5, l5, e7, e8, e9, capZ, hi, hi2, hg, hg2, hei, h0, h0i, encOp, encF, Int.toNat_zero, Int.le_refl, List.length_map]; refine Z _ _ ?_; clear Z Y) | ((first | refine T.x rfl (fun h => by cases h) rfl rfl rfl rfl fun Y Z => ?_ | refine T.u rfl (fun h => by cases h) rfl rfl rfl rfl fun Y Z => ?_); simp only [ze, simprocAttr, -Int.reduceNatCast', -Int.reduceToNat]; refine Z _ _ ?_; clear Z Y))
    all_goals (first | (refine T.y rfl (by first | rfl | (simp only [stC, ze, simprocAttr, -Int.reduceNatCast', -Int.reduceToNat, Nat.reduceBEq, Bool.or_self, kill, e1, l1, e3, e27, e28, e29, e4, e5, l5, e7, e8, e9, capZ, hi, hi2, hg, hg2, hei, h0, h0i, encOp, encF, Int.toNat_zero, Int.le_refl, List.length_map]; first | done | rfl)) rfl rfl rfl rfl fun Y Z => ?_; simp only [zz, simprocAttr, -Int.reduceNatCast', -Int.reduceToNat, tt, Nat.reduceBEq, Bool.or_self, kill, e1, l1, e3, e27, e28, e29, e4, e5, l5, e7, e8, e9, capZ, hi, hi2, hg, hg2, hei, h0, h0i, encOp, encF, Int.toNat_zero, Int.le_refl, List.length_map]; refine Z _ _ ?_; clear Z Y) | ((first | refine T.x rfl (fun _ => rfl) rfl rfl rfl rfl fun Y Z => ?_ | refine T.u rfl (fun _ => rfl) rfl rfl rfl rfl fun Y Z => ?_); simp only [ze, simprocAttr, -Int.reduceNatCast', -Int.reduceToNat]; refine Z _ _ ?_; clear Z Y))
    all_goals (first | (refine T.y rfl trivial rfl rfl rfl rfl fun Y Z => ?_; simp only [zz, simprocAttr, -Int.reduceNatCast', -Int.reduceToNat, tt, Nat.reduceBEq, Bool.or_self, kill, e1, l1, e3, e27, e28, e29, e4, e5, l5, e7, e8, e9, capZ, hi, hi2, hg, hg2, hei, h0, h0i, encOp, encF, Int.toNat_zero, Int.le_refl, List.length_map]; refine Z _ _ ?_; clear Z Y) | ((first | refine T.x rfl (fun h => by cases h) rfl rfl rfl rfl fun Y Z => ?_ | refine T.u rfl (fun h => by cases h) rfl rfl rfl rfl fun Y Z => ?_); simp only [ze, simprocAttr, -Int.reduceNatCast', -Int.reduceToNat]; refine Z _ _ ?_; clear Z Y))
    all_goals (first | (refine T.sq (J12 @Bool.or_self @kill.eq_1 @kill.eq_2 e1 l1 e3 e27 e28 e29 e4 e5 (J12 l5 e7 e8 e9 @capZ.eq_1 hi hi2 hg hg2 hei h0 (J6 h0i @encOp.eq_1 @encF.eq_1 @Int.toNat_zero @Int.le_refl @List.length_map.{0,0}))) fun b a58 => ?_; cases b <;> (try exact nope a58)) | ((first | refine T.x rfl (fun h => by cases h) rfl rfl rfl rfl fun Y Z => ?_ | refine T.u rfl (fun h => by cases h) rfl rfl rfl rfl fun Y Z => ?_); simp only [ze, simprocAttr, -Int.reduceNatCast', -Int.reduceToNat]; refine Z _ _ ?_; clear Z Y))
    all_goals iterate 2 refine T.onf (J12 @Bool.or_self @kill.eq_1 @kill.eq_2 e1 l1 e3 e27 e28 e29 e4 e5 (J12 l5 e7 e8 e9 @capZ.eq_1 hi hi2 hg hg2 hei h0 (J6 h0i @encOp.eq_1 @encF.eq_1 @Int.toNat_zero @Int.le_refl @List.length_map.{0,0}))) ?_
    all_goals iterate 2 (first | (refine T.y rfl trivial rfl rfl rfl rfl fun Y Z => ?_; simp only [zz, simprocAttr, -Int.reduceNatCast', -Int.reduceToNat, tt, Nat.reduceBEq, Bool.or_self, kill, e1, l1, e3, e27, e28, e29, e4, e5, l5, e7, e8, e9, capZ, hi, hi2, hg, hg2, hei, h0, h0i, encOp, encF, Int.toNat_zero, Int.le_refl, List.length_map]; refine Z _ _ ?_; clear Z Y) | ((first | refine T.x rfl (fun h => by cases h) rfl rfl rfl rfl fun Y Z => ?_ | refine T.u rfl (fun h => by cases h) rfl rfl rfl rfl fun Y Z => ?_); simp only [ze, simprocAttr, -Int.reduceNatCast', -Int.reduceToNat]; refine Z _ _ ?_; clear Z Y))
    all_goals iterate 2 (first | (refine T.y rfl (by first | rfl | (simp only [stC, ze, simprocAttr, -Int.reduceNatCast', -Int.reduceToNat, Nat.reduceBEq, Bool.or_self, kill, e1, l1, e3, e27, e28, e29, e4, e5, l5, e7, e8, e9, capZ, hi, hi2, hg, hg2, hei, h0, h0i, encOp, encF, Int.toNat_zero, Int.le_refl, List.length_map]; first | done | rfl)) rfl rfl rfl rfl fun Y Z => ?_; simp only [zz, simprocAttr, -Int.reduceNatCast', -Int.reduceToNat, tt, Nat.reduceBEq, Bool.or_self, kill, e1, l1, e3, e27, e28, e29, e4, e5, l5, e7, e8, e9, capZ, hi, hi2, hg, hg2, hei, h0, h0i, encOp, encF, Int.toNat_zero, Int.le_refl, List.length_map]; refine Z _ _ ?_; clear Z Y) | ((first | refine T.x rfl (fun _ => rfl) rfl rfl rfl rfl fun Y Z => ?_ | refine T.u rfl (fun _ => rfl) rfl rfl rfl rfl fun Y Z => ?_); simp only [ze, simprocAttr, -Int.reduceNatCast', -Int.reduceToNat]; refine Z _ _ ?_; clear Z Y))
    all_goals iterate 2 (first | (refine T.y rfl trivial rfl rfl rfl rfl fun Y Z => ?_; simp only [zz, simprocAttr, -Int.reduceNatCast', -Int.reduceToNat, tt, Nat.reduceBEq, Bool.or_self, kill, e1, l1, e3, e27, e28, e29, e4, e5, l5, e7, e8, e9, capZ, hi, hi2, hg, hg2, hei, h0, h0i, encOp, encF, Int.toNat_zero, Int.le_refl, List.length_map]; refine Z _ _ ?_; clear Z Y) | ((first | refine T.x rfl (fun h => by cases h) rfl rfl rfl rfl fun Y Z => ?_ | refine T.u rfl (fun h => by cases h) rfl rfl rfl rfl fun Y Z => ?_); simp only [ze, simprocAttr, -Int.reduceNatCast', -Int.reduceToNat]; refine Z _ _ ?_; clear Z Y))
    all_goals (first | (refine T.y rfl (by first | rfl | (simp only [stC, ze, simprocAttr, -Int.reduceNatCast', -Int.reduceToNat, Nat.reduceBEq, Bool.or_self, kill, e1, l1, e3, e27, e28, e29, e4, e5, l5, e7, e8, e9, capZ, hi, hi2, hg, hg2, hei, h0, h0i, encOp, encF, Int.toNat_zero, Int.le_refl, List.length_map]; first | done | rfl)) rfl rfl rfl rfl fun Y Z => ?_; simp only [zz, simprocAttr, -Int.reduceNatCast', -Int.reduceToNat, tt, Nat.reduceBEq, Bool.or_self, kill, e1, l1, e3, e27, e28, e29, e4, e5, l5, e7, e8, e9, capZ, hi, hi2, hg, hg2, hei, h0, h0i, encOp, encF, Int.toNat_zero, Int.le_refl, List.length_map]; refine Z _ _ ?_; clear Z Y) | ((first | refine T.x rfl (fun _ => rfl) rfl rfl rfl rfl fun Y Z => ?_ | refine T.u rfl (fun _ => rfl) rfl rfl rfl rfl fun Y Z => ?_); simp only [ze, simprocAttr, -Int.reduceNatCast', -Int.reduceToNat]; refine Z _ _ ?_; clear Z Y))
    all_goals (first | (refine T.sq (J12 @Bool.or_self @kill.eq_1 @kill.eq_2 e1 l1 e3 e27 e28 e29 e4 e5 (J12 l5 e7 e8 e9 @capZ.eq_1 hi hi2 hg hg2 hei h0 (J6 h0i @encOp.eq_1 @encF.eq_1 @Int.toNat_zero @Int.le_refl @List.length_map.{0,0}))) fun b a68 => ?_; cases b <;> (try exact nope a68)) | ((first | refine T.x rfl (fun h => by cases h) rfl rfl rfl rfl fun Y Z => ?_ | refine T.u rfl (fun h => by cases h) rfl rfl rfl rfl fun Y Z => ?_); simp only [ze, simprocAttr, -Int.reduceNatCast', -Int.reduceToNat]; refine Z _ _ ?_; clear Z Y))
    all_goals iterate 2 refine T.onf (J12 @Bool.or_self @kill.eq_1 @kill.eq_2 e1 l1 e3 e27 e28 e29 e4 e5 (J12 l5 e7 e8 e9 @capZ.eq_1 hi hi2 hg hg2 hei h0 (J6 h0i @encOp.eq_1 @encF.eq_1 @Int.toNat_zero @Int.le_refl @List.length_map.{0,0}))) ?_
    all_goals iterate 2 (first | (refine T.y rfl trivial rfl rfl rfl rfl fun Y Z => ?_; simp only [zz, simprocAttr, -Int.reduceNatCast', -Int.reduceToNat, tt, Nat.reduceBEq, Bool.or_self, kill, e1, l1, e3, e27, e28, e29, e4, e5, l5, e7, e8, e9, capZ, hi, hi2, hg, hg2, hei, h0, h0i, encOp, encF, Int.toNat_zero, Int.le_refl, List.length_map]; refine Z _ _ ?_; clear Z Y) | ((first | refine T.x rfl (fun h => by cases h) rfl rfl rfl rfl fun Y Z => ?_ | refine T.u rfl (fun h => by cases h) rfl rfl rfl rfl fun Y Z => ?_); simp only [ze, simprocAttr, -Int.reduceNatCast', -Int.reduceToNat]; refine Z _ _ ?_; clear Z Y))
    all_goals iterate 2 (first | (refine T.y rfl (by first | rfl | (simp only [stC, ze, simprocAttr, -Int.reduceNatCast', -Int.reduceToNat, Nat.reduceBEq, Bool.or_self, kill, e1, l1, e3, e27, e28, e29, e4, e5, l5, e7, e8, e9, capZ, hi, hi2, hg, hg2, hei, h0, h0i, encOp, encF, Int.toNat_zero, Int.le_refl, List.length_map]; first | done | rfl)) rfl rfl rfl rfl fun Y Z => ?_; simp only [zz, simprocAttr, -Int.reduceNatCast', -Int.reduceToNat, tt, Nat.reduceBEq, Bool.or_self, kill, e1, l1, e3, e27, e28, e29, e4, e5, l5, e7, e8, e9, capZ, hi, hi2, hg, hg2, hei, h0, h0i, encOp, encF, Int.toNat_zero, Int.le_refl, List.length_map]; refine Z _ _ ?_; clear Z Y) | ((first | refine T.x rfl (fun _ => rfl) rfl rfl rfl rfl fun Y Z => ?_ | refine T.u rfl (fun _ => rfl) rfl rfl rfl rfl fun Y Z => ?_); simp only [ze, simprocAttr, -Int.reduceNatCast', -Int.reduceToNat]; refine Z _ _ ?_; clear Z Y))
    all_goals (first | (refine T.y rfl trivial rfl rfl rfl rfl fun Y Z => ?_; simp only [zz, simprocAttr, -Int.reduceNatCast', -Int.reduceToNat, tt, Nat.reduceBEq, Bool.or_self, kill, e1, l1, e3, e27, e28, e29, e4, e5, l5, e7, e8, e9, capZ, hi, hi2, hg, hg2, hei, h0, h0i, encOp, encF, Int.toNat_zero, Int.le_refl, List.length_map]; refine Z _ _ ?_; clear Z Y) | ((first | refine T.x rfl (fun h => by cases h) rfl rfl rfl rfl fun Y Z => ?_ | refine T.u rfl (fun h => by cases h) rfl rfl rfl rfl fun Y Z => ?_); simp only [ze, simprocAttr, -Int.reduceNatCast', -Int.reduceToNat]; refine Z _ _ ?_; clear Z Y))
    all_goals (first | (refine T.y rfl (by first | rfl | (simp only [stC, ze, simprocAttr, -Int.reduceNatCast', -Int.reduceToNat, Nat.reduceBEq, Bool.or_self, kill, e1, l1, e3, e27, e28, e29, e4, e5, l5, e7, e8, e9, capZ, hi, hi2, hg, hg2, hei, h0, h0i, encOp, encF, Int.toNat_zero, Int.le_refl, List.length_map]; first | done | rfl)) rfl rfl rfl rfl fun Y Z => ?_; simp only [zz, simprocAttr, -Int.reduceNatCast', -Int.reduceToNat, tt, Nat.reduceBEq, Bool.or_self, kill, e1, l1, e3, e27, e28, e29, e4, e5, l5, e7, e8, e9, capZ, hi, hi2, hg, hg2, hei, h0, h0i, encOp, encF, Int.toNat_zero, Int.le_refl, List.length_map]; refine Z _ _ ?_; clear Z Y) | ((first | refine T.x rfl (fun _ => rfl) rfl rfl rfl rfl fun Y Z => ?_ | refine T.u rfl (fun _ => rfl) rfl rfl rfl rfl fun Y Z => ?_); simp only [ze, simprocAttr, -Int.reduceNatCast', -Int.reduceToNat]; refine Z _ _ ?_; clear Z Y))
    all_goals (first | (refine T.y rfl trivial rfl rfl rfl rfl fun Y Z => ?_; simp only [zz, simprocAttr, -Int.reduceNatCast', -Int.reduceToNat, Nat.reduceBEq, Bool.or_self, kill, e1, l1, e3, e27, e28, e29, e4, e5, l5, e7, e8, e9, capZ, hi, hi2, hg, hg2, hei, h0, h0i, encOp, encF, Int.toNat_zero, Int.le_refl, List.length_map]; refine PCalls.eqto (anyI_spec (p := badF (o.kind == 1) (i : Nat)) f (by omega) rfl rfl rfl rfl (bad_spec _ _)) ?_; refine S.bool fun b a77 => ?_; cases b <;> (try exact nope a77) <;> (refine Z _ _ ?_; clear Z Y)) | ((first | refine T.x rfl (fun h => by cases h) rfl rfl rfl rfl fun Y Z => ?_ | refine T.u rfl (fun h => by cases h) rfl rfl rfl rfl fun Y Z => ?_); simp only [ze, simprocAttr, -Int.reduceNatCast', -Int.reduceToNat]; refine Z _ _ ?_; clear Z Y))
    all_goals iterate 2 refine T.onf (J12 @Bool.or_self @kill.eq_1 @kill.eq_2 e1 l1 e3 e27 e28 e29 e4 e5 (J12 l5 e7 e8 e9 @capZ.eq_1 hi hi2 hg hg2 hei h0 (J6 h0i @encOp.eq_1 @encF.eq_1 @Int.toNat_zero @Int.le_refl @List.length_map.{0,0}))) ?_
    all_goals iterate 2 (first | (refine T.y rfl trivial rfl rfl rfl rfl fun Y Z => ?_; simp only [zz, simprocAttr, -Int.reduceNatCast', -Int.reduceToNat, tt, Nat.reduceBEq, Bool.or_self, kill, e1, l1, e3, e27, e28, e29, e4, e5, l5, e7, e8, e9, capZ, hi, hi2, hg, hg2, hei, h0, h0i, encOp, encF, Int.toNat_zero, Int.le_refl, List.length_map]; refine Z _ _ ?_; clear Z Y) | ((first | refine T.x rfl (fun h => by cases h) rfl rfl rfl rfl fun Y Z => ?_ | refine T.u rfl (fun h => by cases h) rfl rfl rfl rfl fun Y Z => ?_); simp only [ze, simprocAttr, -Int.reduceNatCast', -Int.reduceToNat]; refine Z _ _ ?_; clear Z Y))
    all_goals (first | (refine T.y rfl (by first | rfl | (simp only [stC, ze, simprocAttr, -Int.reduceNatCast', -Int.reduceToNat, Nat.reduceBEq, Bool.or_self, kill, e1, l1, e3, e27, e28, e29, e4, e5, l5, e7, e8, e9, capZ, hi, hi2, hg, hg2, hei, h0, h0i, encOp, encF, Int.toNat_zero, Int.le_refl, List.length_map]; first | done | rfl)) rfl rfl rfl rfl fun Y Z => ?_; simp only [zz, simprocAttr, -Int.reduceNatCast', -Int.reduceToNat, tt, Nat.reduceBEq, Bool.or_self, kill, e1, l1, e3, e27, e28, e29, e4, e5, l5, e7, e8, e9, capZ, hi, hi2, hg, hg2, hei, h0, h0i, encOp, encF, Int.toNat_zero, Int.le_refl, List.length_map]; refine Z _ _ ?_; clear Z Y) | ((first | refine T.x rfl (fun _ => rfl) rfl rfl rfl rfl fun Y Z => ?_ | refine T.u rfl (fun _ => rfl) rfl rfl rfl rfl fun Y Z => ?_); simp only [ze, simprocAttr, -Int.reduceNatCast', -Int.reduceToNat]; refine Z _ _ ?_; clear Z Y))
    all_goals (first | (refine T.y rfl trivial rfl rfl rfl rfl fun Y Z => ?_; simp only [zz, simprocAttr, -Int.reduceNatCast', -Int.reduceToNat, Nat.reduceBEq, Bool.or_self, kill, e1, l1, e3, e27, e28, e29, e4, e5, l5, e7, e8, e9, capZ, hi, hi2, hg, hg2, hei, h0, h0i, encOp, encF, Int.toNat_zero, Int.le_refl, List.length_map]; refine Z _ _ ?_; clear Z Y) | ((first | refine T.x rfl (fun h => by cases h) rfl rfl rfl rfl fun Y Z => ?_ | refine T.u rfl (fun h => by cases h) rfl rfl rfl rfl fun Y Z => ?_); simp only [ze, simprocAttr, -Int.reduceNatCast', -Int.reduceToNat]; refine Z _ _ ?_; clear Z Y))
    all_goals (first | (refine T.sq (J12 @Bool.or_self @kill.eq_1 @kill.eq_2 e1 l1 e3 e27 e28 e29 e4 e5 (J12 l5 e7 e8 e9 @capZ.eq_1 hi hi2 hg hg2 hei h0 (J6 h0i @encOp.eq_1 @encF.eq_1 @Int.toNat_zero @Int.le_refl @List.length_map.{0,0}))) fun b a84 => ?_; cases b <;> (try exact nope a84)) | ((first | refine T.x rfl (fun h => by cases h) rfl rfl rfl rfl fun Y Z => ?_ | refine T.u rfl (fun h => by cases h) rfl rfl rfl rfl fun Y Z => ?_); simp only [ze, simprocAttr, -Int.reduceNatCast', -Int.reduceToNat]; refine Z _ _ ?_; clear Z Y))
    all_goals iterate 2 refine T.onf (J12 @Bool.or_self @kill.eq_1 @kill.eq_2 e1 l1 e3 e27 e28 e29 e4 e5 (J12 l5 e7 e8 e9 @capZ.eq_1 hi hi2 hg hg2 hei h0 (J6 h0i @encOp.eq_1 @encF.eq_1 @Int.toNat_zero @Int.le_refl @List.length_map.{0,0}))) ?_
    all_goals iterate 4 (first | (refine T.y rfl trivial rfl rfl rfl rfl fun Y Z => ?_; simp only [zz, simprocAttr, -Int.reduceNatCast', -Int.reduceToNat, Nat.reduceBEq, Bool.or_self, kill, e1, l1, e3, e27, e28, e29, e4, e5, l5, e7, e8, e9, capZ, hi, hi2, hg, hg2, hei, h0, h0i, encOp, encF, Int.toNat_zero, Int.le_refl, List.length_map]; refine Z _ _ ?_; clear Z Y) | ((first | refine T.x rfl (fun h => by cases h) rfl rfl rfl rfl fun Y Z => ?_ | refine T.u rfl (fun h => by cases h) rfl rfl rfl rfl fun Y Z => ?_); simp only [ze, simprocAttr, -Int.reduceNatCast', -Int.reduceToNat]; refine Z _ _ ?_; clear Z Y))
    all_goals (first | (refine T.sq (J12 @Bool.or_self @kill.eq_1 @kill.eq_2 e1 l1 e3 e27 e28 e29 e4 e5 (J12 l5 e7 e8 e9 @capZ.eq_1 hi hi2 hg hg2 hei h0 (J6 h0i @encOp.eq_1 @encF.eq_1 @Int.toNat_zero @Int.le_refl @List.length_map.{0,0}))) fun b a91 => ?_; cases b <;> (try exact nope a91)) | ((first | refine T.x rfl (fun h => by cases h) rfl rfl rfl rfl fun Y Z => ?_ | refine T.u rfl (fun h => by cases h) rfl rfl rfl rfl fun Y Z => ?_); simp only [ze, simprocAttr, -Int.reduceNatCast', -Int.reduceToNat]; refine Z _ _ ?_; clear Z Y))
    all_goals iterate 5 (first | (refine T.y rfl trivial rfl rfl rfl rfl fun Y Z => ?_; simp only [zz, simprocAttr, -Int.reduceNatCast', -Int.reduceToNat, Nat.reduceBEq, Bool.or_self, kill, e1, l1, e3, e27, e28, e29, e4, e5, l5, e7, e8, e9, capZ, hi, hi2, hg, hg2, hei, h0, h0i, encOp, encF, Int.toNat_zero, Int.le_refl, List.length_map]; refine Z _ _ ?_; clear Z Y) | ((first | refine T.x rfl (fun h => by cases h) rfl rfl rfl rfl fun Y Z => ?_ | refine T.u rfl (fun h => by cases h) rfl rfl rfl rfl fun Y Z => ?_); simp only [ze, simprocAttr, -Int.reduceNatCast', -Int.reduceToNat]; refine Z _ _ ?_; clear Z Y))
    all_goals refine T.onf (J12 @Bool.or_self @kill.eq_1 @kill.eq_2 e1 l1 e3 e27 e28 e29 e4 e5 (J12 l5 e7 e8 e9 @capZ.eq_1 hi hi2 hg hg2 hei h0 (J6 h0i @encOp.eq_1 @encF.eq_1 @Int.toNat_zero @Int.le_refl @List.length_map.{0,0}))) ?_
    all_goals refine T.nil ?_
    all_goals simp only [ze, simprocAttr, Nat.reduceBEq, Bool.or_self, kill, e1, l1, e3, e27, e28, e29, e4, e5, l5, e7, e8, e9, capZ, hi, hi2, hg, hg2, hei, h0, h0i, encOp, encF, Int.toNat_zero, Int.le_refl, List.length_map]
    all_goals
     rw [hba]
     unfold opBad
     first
      | (rw [a48, a58, a68, a77, hlast, show ((o.kind == 5) != false) = false from a84, a91]; rfl)
      | (rw [a48, a58, a68, a77, hlast, show ((o.kind == 5) != false) = false from a84]; rfl)
      | (rw [a48, a58, a68, a77, hlast, show ((o.kind == 5) != false) = true from a84]; rfl)
      | (rw [a48, a58, a68, a77, hlast, show ((o.kind == 5) != true) = false from a84, a91]; rfl)
      | (rw [a48, a58, a68, a77, hlast, show ((o.kind == 5) != true) = false from a84]; rfl)
      | (rw [a48, a58, a68, a77, hlast, show ((o.kind == 5) != true) = true from a84]; rfl)
      | (rw [a48, a58, a68, a77]; rfl)
      | (rw [a48, a58, a68]; rfl)
      | (rw [a48, a58]; rfl)
      | (rw [a48]; rfl)
   clear e1 l1 e3 e27 e28 e29 e4 e5 l5 e7 e8 e9 s
   rintro s σ ⟨rfl, e97, e1, l1, e3, e27, e28, e29⟩
   refine AW.cond (b := badAt x i) e97 (fun hc => ?_) (fun hc => ?_)
   ·refine AW.sr trivial ?_
    refine AW.ret ?_
    simp only [zs, simprocAttr]
    rw [hpe, if_pos (List.any_eq_true.2 ⟨i, List.mem_range.2 hi, hc⟩)]
   ·refine AW.skip ?_
    exact ⟨rfl, hc, e1, l1, e3, e27, e28, e29⟩
  ·clear e1 l1 e3 e27 e28 e29 s
   rintro s σ ⟨rfl, hbi, e1, l1, e3, e27, e28, e29⟩
   refine AW.reg0 (S.rn (J7 e1 l1 e3 e27 e28 e29 hw) ?_)
   simp only [ze, simprocAttr, e1, l1, e3, e27, e28, e29, hw]
   refine ⟨m - 1, by omega, i + 1, by omega, fun j hj => ?_, ?_⟩
   ·rcases Nat.lt_succ_iff_lt_or_eq.1 hj with h | rfl
    ·exact hb j h
    ·exact hbi
   ·all_goals ((try and_intros) <;> first | rfl | assumption | (rfl))
 ·have hi := of_decide_eq_false hi
  refine AW.exit ?_
  simp only [zs, simprocAttr]
  all_goals apply_assumption
  refine AW.sr trivial ?_
  refine AW.ret ?_
  simp only [zs, simprocAttr]
  rw [hpe, if_neg]
  intro h
  obtain ⟨j, hj, hjb⟩ := List.any_eq_true.1 h
  rw [hb j (by have := List.mem_range.1 hj; omega)] at hjb
  cases hjb
def isP (x : Pln) (i : Int) : Bool := decide (i ≥ 0) && (decide (i < (x.ops.length : Nat)) && (planErr x == 0))
theorem is_spec (x : Pln) (hx : okPlN x) (i : Int) : PCalls Tryz.prog 55 [.agg (encPl x), .c (.int .i64 i)] (fun v => v = .c (.bool (isP x i))) := by
 refine PCalls.intro Tryz.call55 Tryz.func55 rfl Tryz.ntmps55 Tryz.results55 (by simp) ?_
 refine AW.sr @encPl.eq_1 ?_
 refine AW.seq_j (fun s' σ' => σ' = Hp.empty ∧ s'.t 4 = .c (.bool (isP x i))) ?_ ?_
 ·skip
  refine AW.reg0 ?_
  have q1q := J2 @encPl.eq_1 @List.length_map.{0,0}
  refine S.one q1q ?_
  (refine S.sp q1q fun b a6 => ?_; cases b <;> (try exact nope a6))
  all_goals iterate 5 refine S.one q1q ?_
  all_goals (first | (refine S.sp q1q fun b a12 => ?_; cases b <;> (try exact nope a12)) | ((first | refine S.x rfl rfl rfl rfl fun Y Z => ?_ | refine S.u rfl rfl rfl rfl fun Y Z => ?_); simp only [ze, simprocAttr, -Int.reduceNatCast', -Int.reduceToNat]; refine Z _ _ ?_; clear Z Y))
  all_goals iterate 3 refine S.one q1q ?_
  all_goals (first | (refine S.y rfl rfl rfl rfl fun Y Z => ?_; simp only [zz, simprocAttr, -Int.reduceNatCast', -Int.reduceToNat, q1q]; refine PCalls.eqto (planCheck_spec x hx) ?_ <;> (refine Z _ _ ?_; clear Z Y)) | ((first | refine S.x rfl rfl rfl rfl fun Y Z => ?_ | refine S.u rfl rfl rfl rfl fun Y Z => ?_); simp only [ze, simprocAttr, -Int.reduceNatCast', -Int.reduceToNat]; refine Z _ _ ?_; clear Z Y))
  all_goals iterate 3 refine S.one q1q ?_
  all_goals refine S.nil ?_
  all_goals simp only [ze, simprocAttr, q1q]
  all_goals
   unfold isP
   first
    | (have b1 := of_decide_eq_true a6; have b2 := of_decide_eq_true a12; rw [decide_eq_true b1, decide_eq_true b2]; rfl)
    | (have b1 := of_decide_eq_true a6; have b2 := of_decide_eq_false a12; rw [decide_eq_true b1, decide_eq_false b2]; rfl)
    | (have b1 := of_decide_eq_false a6; rw [decide_eq_false b1]; rfl)
 rintro s σ ⟨rfl, e4⟩
 refine AW.ret ?_
 all_goals simp only [zs, simprocAttr, e4]
 all_goals ((try and_intros) <;> first | rfl | assumption | (rfl))
theorem plan_good {x : Pln} (h : planErr x = 0) : (2 ≤ x.ops.length ∧ x.ops.length ≤ 32 ∧ x.from_.length = x.ops.length) ∧ ∀ (i : Nat) (o : OpS) (f : List Int), x.ops[i]? = some o → x.from_[i]? = some f → opBad x (winOf x) i o f = false := by
 unfold planErr at h
 split at h
 ·cases h
 rename_i hc
 split at h
 ·cases h
 rename_i hb
 simp only [cntBad, Bool.or_eq_true, not_or, decide_eq_true_eq, bne_iff_ne, ne_eq, Decidable.not_not] at hc
 refine ⟨by omega, fun i o f h1 h2 => ?_⟩
 have hi : i < x.ops.length := (List.getElem?_eq_some_iff.1 h1).1
 have : ¬ badAt x i = true := fun h3 => hb (List.any_eq_true.2 ⟨i, List.mem_range.2 hi, h3⟩)
 simp only [badAt, h1, h2, Bool.not_eq_true] at this
 exact this
theorem plan_froms {x : Pln} (h : planErr x = 0) {i : Nat} {o : OpS} {f : List Int} (h1 : x.ops[i]? = some o) (h2 : x.from_[i]? = some f) : ∀ z ∈ f, (o.kind = 1 → z = -1) ∧ (o.kind ≠ 1 → 0 ≤ z ∧ z < i) := fun z hz => by
 have hb := (plan_good h).2 i o f h1 h2
 simp only [opBad, Bool.or_eq_false_iff] at hb
 have := List.any_eq_false.1 hb.2.2.2.1 z hz
 simp only [badF, Bool.not_eq_true, Bool.or_eq_false_iff, Bool.and_eq_false_iff, beq_eq_false_iff_ne, bne_eq_false_iff_eq, Bool.not_eq_false', beq_iff_eq, decide_eq_false_iff_not] at this
 omega
def deepStep (acc : List Int) (d : Int) (f : Int) : Int := if f ≥ 0 then max d (acc.getD f.toNat 0 + 1) else d
def deepRow (acc : List Int) (fs : List Int) : Int := fs.foldl (deepStep acc) 1
def deeps (l : List (List Int)) : List Int := l.foldl (fun acc fs => acc ++ [deepRow acc fs]) []
theorem deeps_snoc (l : List (List Int)) (f : List Int) : deeps (l ++ [f]) = deeps l ++ [deepRow (deeps l) f] := by rw [deeps, List.foldl_append]; rfl
theorem deeps_len (l : List (List Int)) : (deeps l).length = l.length := by
 have : ∀ (l : List (List Int)) (a : List Int), (l.foldl (fun acc fs => acc ++ [deepRow acc fs]) a).length = a.length + l.length := fun l => by
  induction l with
  | nil => intro a; rfl
  | cons f l ih => intro a; rw [List.foldl_cons, ih]; simp; omega
 rw [deeps, this]; simp
def deepOf (x : Pln) (i : Int) : Int := if isP x i then (deeps (x.from_.take (i.toNat + 1))).getD i.toNat 0 else 0
def AccI (l : List Int) (u : V) (σ : Hp) : Prop := (u = .c (.slice none 0 0) ∧ l = [] ∧ σ = Hp.empty) ∨ ∃ k, u = .gl k ∧ σ = Hp.empty.setGr k (some ((3, 1), l.map encI))
theorem AccI.kill {l : List Int} {u : V} {σ : Hp} (h : AccI l u σ) (d : Nat) : kill d u = u := by
 rcases h with ⟨h, _⟩ | ⟨k, h, _⟩ <;> rw [h] <;> rfl
theorem deep_spec_ (x : Pln) (hx : okPlN x) (i : Int) (hi64 : inI64 i) : PCalls Tryz.prog 22 [.agg (encPl x), .c (.int .i64 i)] (fun v => v = .c (.int .i64 (deepOf x i))) := by
 refine ACalls.bare (R := fun v _ => v = .c (.int .i64 (deepOf x i))) (ACalls.intro Tryz.call22 Tryz.func22 rfl Tryz.ntmps22 Tryz.results22 (by simp) ?_) fun _ _ h => h
 refine AW.sr @encPl.eq_1 ?_
 refine AW.seq_j (fun s' σ' => σ' = Hp.empty ∧ isP x i = true ∧ s'.t 1 = .c (.int .i64 i) ∧ s'.t 2 = .lp 2 0 ∧ s'.l 2 = some [.sl (x.ops.map encOp), .sl (x.from_.map encF)]) ?_ ?_
 ·refine AW.seq_k fun K2 h2 => ?_
  refine AW.reg0 ?_
  iterate 2 refine S.one @encPl.eq_1 ?_
  (refine S.g rfl rfl fun Y Z => ?_; simp only [zz, simprocAttr, -Int.reduceNatCast', -Int.reduceToNat, encPl]; refine PCalls.eqto (is_spec x hx i) ?_ <;> (refine Z _ _ ?_; clear Z Y))
  all_goals refine S.one @encPl.eq_1 ?_
  all_goals (refine S.nil ?_; simp only [ze, simprocAttr, encPl]; apply_assumption)
  refine AW.cond (b := !isP x i) (by simp [ev]) (fun hb => ?_) (fun hb => ?_)
  ·have hb : isP x i = false := by simpa using hb
   refine AW.sr trivial ?_
   refine AW.ret ?_
   simp only [zs, simprocAttr]
   rw [deepOf, hb, if_neg Bool.false_ne_true]
  ·have hb : isP x i = true := by simpa using hb
   refine AW.skip ?_
   simp only [zs, simprocAttr]
   exact hb
 rintro s σ ⟨rfl, hb, e1, e2, l2⟩
 have hdo : deepOf x i = (deeps (x.from_.take (i.toNat + 1))).getD i.toNat 0 := by rw [deepOf, hb, if_pos rfl]
 simp only [isP, Bool.and_eq_true, decide_eq_true_eq, beq_iff_eq] at hb
 obtain ⟨h0, h1, he⟩ := hb
 obtain ⟨⟨hn1, hn2, hn3⟩, _⟩ := plan_good he
 obtain ⟨q, rfl⟩ := Int.eq_ofNat_of_zero_le h0
 simp only [Int.toNat_natCast] at hdo
 have hq : q < x.ops.length := by omega
 have hwq : IntKind.i64.wrap ((q : Int) + 1) = ((q + 1 : Nat) : Int) := by rw [wrap_small _ (by omega) (by omega)]; omega
 all_goals refine AW.sr (J3 e1 e2 l2) ?_
 refine AW.seq_j (fun s' σ' => AccI (deeps (x.from_.take (q + 1))) (s'.t 5) σ' ∧ s'.t 1 = .c (.int .i64 (q : Nat))) ?_ ?_
 ·refine AW.sr (J4 e1 e2 l2 hwq) ?_
  refine AW.block ?_   -- 0
  refine AW.loop (fun m s' σ' => ∃ k : Nat, m + k = q + 1 ∧ AccI (deeps (x.from_.take k)) (s'.t 5) σ' ∧ (deeps (x.from_.take k)).length = k ∧ (∀ d ∈ deeps (x.from_.take k), 1 ≤ d ∧ d ≤ k) ∧ s'.t 1 = .c (.int .i64 (q : Nat)) ∧ s'.t 2 = .lp 2 0 ∧ s'.l 2 = some [.sl (x.ops.map encOp), .sl (x.from_.map encF)] ∧ s'.t 15 = .c (.int .i64 ((q + 1 : Nat) : Int)) ∧ s'.t 16 = .c (.int .i64 (k : Nat))) (q + 1) ?_ ?_
  ·refine ⟨0, by simp, ?_⟩
   simp only [zs, simprocAttr, -Int.reduceNatCast', -Int.reduceToNat, e1, e2, l2]
   refine ⟨.inl ⟨rfl, rfl, rfl⟩, rfl, fun d h => (by cases h), ?_⟩
   all_goals ((try and_intros) <;> first | rfl | assumption | (rfl))
  clear e1 e2 l2 s
  rintro m s σ ⟨k, hm, hacc, hkl, hkb, e1, e2, l2, e15, e16⟩
  all_goals refine AW.sr (J2 e15 e16) ?_
  refine AW.seq_k fun K7 h7 => ?_
  refine AW.cond (b := decide (k < q + 1)) (by simp [ev]; try omega) (fun hk => ?_) (fun hk => ?_)
  ·have hk := of_decide_eq_true hk
   have hkf : k < x.from_.length := by omega
   obtain ⟨f, hf, hfm, hg, hd⟩ := len_f1s hkf
   have hkx : k < x.ops.length := by omega
   have hok := plan_froms he (List.getElem?_eq_getElem hkx) hf
   have hfr : ∀ z ∈ f, z ≥ 0 → z < k := fun z hz h => by
    have := hok z hz
    by_cases hc : x.ops[k].kind = 1
    ·have := this.1 hc; omega
    ·exact (this.2 hc).2
   have hfl := len_sum hfm
   have hsm := hx.small.2.2
   have hw := wadd1 (a := k) (by omega)
   have hk5 := hacc.kill
   have htk : x.from_.take (k + 1) = x.from_.take k ++ [f] := by rw [List.take_add_one, hf]; rfl
   have hds := deeps_snoc (x.from_.take k) f
   rw [← htk] at hds
   generalize deeps (x.from_.take k) = acc at hacc hkl hkb hds
   refine AW.skip ?_
   simp only [zs, simprocAttr]
   all_goals apply_assumption
   refine AW.seq_j (fun s' σ' => AccI (acc ++ [deepRow acc f]) (s'.t 5) σ' ∧ (1 ≤ deepRow acc f ∧ deepRow acc f ≤ k + 1) ∧ s'.t 1 = .c (.int .i64 (q : Nat)) ∧ s'.t 2 = .lp 2 0 ∧ s'.l 2 = some [.sl (x.ops.map encOp), .sl (x.from_.map encF)] ∧ s'.t 15 = .c (.int .i64 ((q + 1 : Nat) : Int)) ∧ s'.t 16 = .c (.int .i64 (k : Nat))) ?_ ?_
   ·refine AW.block ?_   -- 1
    refine AW.sr (J5 e1 e2 l2 e15 e16) ?_
    refine AW.sr (J5 e1 e2 l2 e15 e16) ?_
    refine AW.seq_j (fun s' σ' => AccI acc (s'.t 5) σ' ∧ s'.t 7 = .c (.int .i64 (deepRow acc f)) ∧ (1 ≤ deepRow acc f ∧ deepRow acc f ≤ k + 1) ∧ s'.t 1 = .c (.int .i64 (q : Nat)) ∧ s'.t 2 = .lp 2 0 ∧ s'.l 2 = some [.sl (x.ops.map encOp), .sl (x.from_.map encF)] ∧ s'.t 15 = .c (.int .i64 ((q + 1 : Nat) : Int)) ∧ s'.t 16 = .c (.int .i64 (k : Nat))) ?_ ?_
    ·refine AW.sr (J9 e1 e2 l2 e15 e16 hkf hg @encF.eq_1 @List.length_map.{0,0}) ?_
     refine AW.block ?_   -- 2
     refine AW.loop (fun m s' σ' => ∃ (j : Nat) (d : Int), m + j = f.length ∧ AccI acc (s'.t 5) σ' ∧ deepRow acc f = (f.drop j).foldl (deepStep acc) d ∧ (1 ≤ d ∧ d ≤ k + 1) ∧ s'.t 1 = .c (.int .i64 (q : Nat)) ∧ s'.t 2 = .lp 2 0 ∧ s'.l 2 = some [.sl (x.ops.map encOp), .sl (x.from_.map encF)] ∧ s'.t 15 = .c (.int .i64 ((q + 1 : Nat) : Int)) ∧ s'.t 16 = .c (.int .i64 (k : Nat)) ∧ s'.t 7 = .c (.int .i64 d) ∧ s'.t 23 = .sl (f.map encI) ∧ s'.t 24 = .c (.int .i64 (f.length : Nat)) ∧ s'.t 25 = .c (.int .i64 (j : Nat))) f.length ?_ ?_
     ·refine ⟨0, 1, by simp, ?_⟩
      simp only [zs, reduceIte, Nat.reduceEqDiff, Nat.reduceLT, Nat.reduceLeDiff, Nat.reduceAdd, reduceCtorEq, Nat.reduceMul, e1, e2, l2, e15, e16]
      refine ⟨hacc, rfl, ⟨by omega, by omega⟩, ?_⟩
      all_goals ((try and_intros) <;> first | rfl | assumption | (rfl))
     clear e1 e2 l2 e15 e16 hacc hk5 s σ
     rintro m2 s σ ⟨j, d, hm2, hacc, hp, hdb, e1, e2, l2, e15, e16, e7, e23, e24, e25⟩
     all_goals refine AW.sr (J2 e24 e25) ?_
     refine AW.seq_k fun K12 h12 => ?_
     refine AW.cond (b := decide (j < f.length)) (by simp [ev]) (fun hj => ?_) (fun hj => ?_)
     ·have hj := of_decide_eq_true hj
      obtain ⟨z, hz, hg2, hd2⟩ := int_get hj
      have hzm := List.mem_of_getElem? hz
      have hw2 := wadd1 (a := j) (by omega)
      rw [hd2, List.foldl_cons] at hp
      have hk5 := hacc.kill
      refine AW.skip ?_
      simp only [zs, simprocAttr]
      all_goals apply_assumption
      refine AW.seq_j (fun s' σ' => AccI acc (s'.t 5) σ' ∧ (1 ≤ deepStep acc d z ∧ deepStep acc d z ≤ k + 1) ∧ s'.t 1 = .c (.int .i64 (q : Nat)) ∧ s'.t 2 = .lp 2 0 ∧ s'.l 2 = some [.sl (x.ops.map encOp), .sl (x.from_.map encF)] ∧ s'.t 15 = .c (.int .i64 ((q + 1 : Nat) : Int)) ∧ s'.t 16 = .c (.int .i64 (k : Nat)) ∧ s'.t 7 = .c (.int .i64 (deepStep acc d z)) ∧ s'.t 23 = .sl (f.map encI) ∧ s'.t 24 = .c (.int .i64 (f.length : Nat)) ∧ s'.t 25 = .c (.int .i64 (j : Nat))) ?_ ?_
      ·refine AW.block ?_   -- 3
       refine AW.sr (J6 e23 e25 hj hg2 @encI.eq_1 @List.length_map.{0,0}) ?_
       refine AW.sr (J3 e1 e2 l2) ?_
       refine AW.cond (b := decide (z ≥ 0)) (by simp [ev]) (fun hc => ?_) (fun hc => ?_)
       ·have hc := of_decide_eq_true hc
        have hzk := hfr z hzm hc
        obtain ⟨zn, rfl⟩ := Int.eq_ofNat_of_zero_le hc
        have hza : zn < acc.length := by omega
        have hgz := getD_map (f := encI) hza
        have hbz := hkb acc[zn] (List.getElem_mem hza)
        have hst : deepStep acc d (zn : Nat) = max d (acc[zn] + 1) := by
         rw [deepStep, if_pos hc, Int.toNat_natCast]
         congr 2
         simp [List.getD, hza]
        generalize acc[zn] = y at hgz hbz hst
        have hwy : IntKind.i64.wrap (y + 1) = y + 1 := wrap_small _ (by omega) (by omega)
        have hmx : (if d < y + 1 then y + 1 else d) = deepStep acc d (zn : Nat) := by rw [hst]; split <;> omega
        rcases hacc with ⟨h5, h6, rfl⟩ | ⟨kk, h5, rfl⟩
        ·rw [h6] at hza; cases hza
        ·skip
         refine AW.reg0 (S.rn (J12 e1 e2 l2 e7 e15 e16 e23 e24 e25 h5 hza (J5 hgz @encI.eq_1 hwy hmx @List.length_map.{0,0})) ?_)
         simp only [ze, simprocAttr, e1, e2, l2, e7, e15, e16, e23, e24, e25, h5, hza, hgz, encI, hwy, hmx, List.length_map]
         refine ⟨.inr ⟨kk, rfl, rfl⟩, by rw [hst]; omega, by rw [hst]; omega⟩
       ·have hc := of_decide_eq_false hc
        have hst : deepStep acc d z = d := by rw [deepStep, if_neg hc]
        rw [hst]
        refine AW.skip ?_
        simp only [zs, simprocAttr, e1, e2, l2, e7, e15, e16, e23, e24, e25]
        exact ⟨hacc, hdb⟩
      ·clear e1 e2 l2 e15 e16 e7 e23 e24 e25 hacc hk5 s σ
       rintro s σ ⟨hacc, hdb, e1, e2, l2, e15, e16, e7, e23, e24, e25⟩
       have hk5 := hacc.kill
       refine AW.reg0 (S.rn (J10 e1 e2 l2 e15 e16 e7 e23 e24 e25 hw2) ?_)
       simp only [ze, simprocAttr, e1, e2, l2, e15, e16, e7, e23, e24, e25, hw2]
       refine ⟨m2 - 1, by omega, j + 1, _, by omega, hacc, hp, hdb, ?_⟩
       all_goals ((try and_intros) <;> first | rfl | assumption | (rfl))
     ·have hj := of_decide_eq_false hj
      rw [List.drop_of_length_le (by omega)] at hp
      have hp : deepRow acc f = d := hp
      refine AW.exit ?_
      rw [hp]
      simp only [zs, simprocAttr, e1, e2, l2, e15, e16, e7]
      exact ⟨hacc, hdb⟩
    ·clear e1 e2 l2 e15 e16 hacc hk5 s σ
     rintro s σ ⟨hacc, e7, hdb, e1, e2, l2, e15, e16⟩
     have y3 : (1 ≤ maxLen) = True := eq_true (by unfold maxLen; omega)
     have y4 : (8 ≤ reach) = True := eq_true (by unfold reach; omega)
     have z1 := len_i1 (deepRow acc f)
     rcases hacc with ⟨h5, rfl, rfl⟩ | ⟨kk, h5, rfl⟩
     ·skip
      refine AW.reg0 ?_
      iterate 3 (refine S.g rfl rfl fun Y Z => ?_; simp only [zb, simprocAttr, -Int.reduceNatCast', -Int.reduceToNat, e1, e2, l2, e15, e16, e7, h5, y3, y4, z1, tt]; refine Z _ _ ?_; clear Z Y)
      all_goals (refine S.g rfl rfl fun Y Z => ?_; simp only [zz, simprocAttr, -Int.reduceNatCast', -Int.reduceToNat, tt, e1, e2, l2, e15, e16, e7, h5, y3, y4, z1]; intro k1 hk1 <;> (refine Z _ _ ?_; clear Z Y))
      all_goals refine S.one (J10 e1 e2 l2 e15 e16 e7 h5 y3 y4 z1) ?_
      all_goals refine S.nil ?_
      all_goals simp only [ze, simprocAttr, e1, e2, l2, e15, e16, e7, h5, y3, y4, z1]
      refine ⟨.inr ⟨k1, rfl, rfl⟩, hdb⟩
     ·have y1 : (acc.length + 1 ≤ maxLen) = True := eq_true (by unfold maxLen; omega)
      have y2 : ((acc.length + 1) * 8 ≤ reach) = True := eq_true (by unfold reach; omega)
      refine AW.reg0 ?_
      iterate 3 (refine S.g rfl rfl fun Y Z => ?_; simp only [zb, simprocAttr, -Int.reduceNatCast', -Int.reduceToNat, e1, e2, l2, e15, e16, e7, h5, y1, y2, y3, y4, z1, List.length_map, tt]; refine Z _ _ ?_; clear Z Y)
      all_goals (refine S.g rfl rfl fun Y Z => ?_; simp only [zz, simprocAttr, -Int.reduceNatCast', -Int.reduceToNat, tt, e1, e2, l2, e15, e16, e7, h5, y1, y2, y3, y4, z1, List.length_map]; intro k1 hk1 <;> (refine Z _ _ ?_; clear Z Y))
      all_goals refine S.one (J12 e1 e2 l2 e15 e16 e7 h5 y1 y2 y3 y4 (J2 z1 @List.length_map.{0,0})) ?_
      all_goals refine S.nil ?_
      all_goals simp only [ze, simprocAttr, e1, e2, l2, e15, e16, e7, h5, y1, y2, y3, y4, z1, List.length_map]
      refine ⟨.inr ⟨k1, rfl, ?_⟩, hdb⟩
      rw [List.map_append]
      exact Hp.eqs (fun _ => rfl) fun q => by by_cases h1 : q = k1 <;> by_cases h2 : q = kk <;> simp [h1, h2, Hp.setGr, Hp.empty, encI]
   ·clear e1 e2 l2 e15 e16 hacc hk5 s σ
    rintro s σ ⟨hacc, hdb, e1, e2, l2, e15, e16⟩
    rw [← hds] at hacc
    refine AW.reg0 (S.rn (J6 e1 e2 l2 e15 e16 hw) ?_)
    simp only [ze, simprocAttr, e1, e2, l2, e15, e16, hw]
    refine ⟨m - 1, by omega, k + 1, by omega, hacc, by rw [hds]; simp [hkl], fun d hd' => ?_, ?_⟩
    ·rw [hds] at hd'
     rcases List.mem_append.1 hd' with h | h
     ·have := hkb d h; omega
     ·rw [List.mem_singleton.1 h]; omega
    ·all_goals ((try and_intros) <;> first | rfl | assumption | (rfl))
  ·have hk := of_decide_eq_false hk
   obtain rfl : k = q + 1 := by omega
   refine AW.exit ?_
   simp only [zs, simprocAttr, e1]
   first | exact ⟨hacc, rfl⟩ | exact hacc
 rintro s σ ⟨hacc, e1⟩
 have hlen : (deeps (x.from_.take (q + 1))).length = q + 1 := by
  rw [deeps_len, List.length_take]; omega
 have hq1 : q < (deeps (x.from_.take (q + 1))).length := by omega
 have hgq := getD_map (f := encI) hq1
 have hres : deepOf x (q : Nat) = (deeps (x.from_.take (q + 1)))[q] := by rw [hdo]; simp [List.getD, hq1]
 rw [hres]
 generalize (deeps (x.from_.take (q + 1)))[q] = r at hgq
 rcases hacc with ⟨h5, h6, rfl⟩ | ⟨kk, h5, rfl⟩
 ·rw [h6] at hq1; cases hq1
 ·refine AW.sr (J6 e1 h5 hq1 hgq @encI.eq_1 @List.length_map.{0,0}) ?_
  refine AW.ret ?_
  simp only [zs, simprocAttr]
  all_goals ((try and_intros) <;> first | rfl | assumption | (rfl))
def lsA : ByteArray := ⟨#[65]⟩
def lsB : ByteArray := ⟨#[66]⟩
def lvA : ByteArray := ⟨#[97]⟩
def lvB : ByteArray := ⟨#[98]⟩
def lnA : Nd := ⟨1, lvA, lsA, [], []⟩
def lnB : Nd := ⟨1, lvB, lsB, [], []⟩
def lnS : Nd := ⟨2, ⟨#[]⟩, ⟨#[]⟩, [], [lnA, lnB]⟩
def lpL : Pat := ⟨⟨#[112]⟩, 5, lnS, []⟩
def loA : OpS := ⟨1, lvA, lsA, [], [], 5, 1⟩
def loB : OpS := ⟨1, lvB, lsB, [], [], 5, 1⟩
def loS : OpS := ⟨2, ⟨#[]⟩, ⟨#[]⟩, [], [], 5, 2⟩
def loR : OpS := ⟨5, ⟨#[]⟩, ⟨#[]⟩, [], [], 5, 1⟩
def lxL : Pln := ⟨[loA, loB, loS, loR], [[-1], [-1], [0, 1], [2]]⟩
theorem lab : eqS lvA lvB = false := by simp [eqS, lvA, lvB]
theorem lmk (n : Nd) (h : n.kids = []) (x : Pln) : n.mkR putPl 5 x [] = putPl x ⟨kindOf n.kind, n.var, n.type, n.tests, [], 5, 1⟩ [-1] := by
 rw [Nd.mkR_eq]
 simp only [h, opOf]
 rfl
theorem lput1 : putPl ⟨[], []⟩ loA [-1] = (⟨[loA], [[-1]]⟩, 0) := by rfl
theorem lput2 : putPl ⟨[loA], [[-1]]⟩ loB [-1] = (⟨[loA, loB], [[-1], [-1]]⟩, 1) := by
 rw [putPl_new]
 ·rfl
 ·intro j hj
  have : j = 0 := by simp at hj; exact hj
  subst this
  show (sameOp loA loB && allEq eqI [-1] [-1]) = false
  have : sameOp loA loB = false := by
   show ((1 : Int) == 1 && (eqS lvA lvB && _)) = false
   rw [lab]; rfl
  rw [this]; rfl
theorem lput3 : putPl ⟨[loA, loB], [[-1], [-1]]⟩ loS [0, 1] = (⟨[loA, loB, loS], [[-1], [-1], [0, 1]]⟩, 2) := by rfl
theorem lput4 : putPl ⟨[loA, loB, loS], [[-1], [-1], [0, 1]]⟩ loR [2] = (lxL, 3) := by rfl
theorem lmkS : lnS.mkR putPl 5 ⟨[], []⟩ [] = (⟨[loA, loB, loS], [[-1], [-1], [0, 1]]⟩, 2) := by
 rw [Nd.mkR_eq]
 have hk : kidsR [] ((lnS.kids.map (Nd.mkR putPl 5)).zip lnS.kids) (⟨[], []⟩, []) = (⟨[loA, loB], [[-1], [-1]]⟩, [0, 1]) := by
  show kidsR [] [(lnA.mkR putPl 5, lnA), (lnB.mkR putPl 5, lnB)] (⟨[], []⟩, []) = _
  simp only [kidsR, List.filter_nil]
  rw [lmk lnA rfl, show putPl ⟨[], []⟩ ⟨kindOf lnA.kind, lnA.var, lnA.type, lnA.tests, [], 5, 1⟩ [-1] = (⟨[loA], [[-1]]⟩, 0) from lput1]
  simp only
  rw [lmk lnB rfl, show putPl ⟨[loA], [[-1]]⟩ ⟨kindOf lnB.kind, lnB.var, lnB.type, lnB.tests, [], 5, 1⟩ [-1] = (⟨[loA, loB], [[-1], [-1]]⟩, 1) from lput2]
  rfl
 rw [hk, if_neg (by decide)]
 exact lput3
theorem lplan : planR putM lpL = lxL := by
 rw [planR_same, planR]
 show (putPl (lnS.mkR putPl 5 ⟨[], []⟩ []).1 _ [((lnS.mkR putPl 5 ⟨[], []⟩ []).2 : Int)]).1 = lxL
 rw [lmkS]
 exact congrArg Prod.fst lput4
theorem lvarsA : lnA.vars = [lvA] := by rfl
theorem lvarsB : lnB.vars = [lvB] := by rfl
theorem lba : eqS lvB lvA = false := by simp [eqS, lvA, lvB]
theorem lbi : lnS.binds = 0 := by
 rw [Nd.binds_eq]
 show bindsFrom true [] [(lnA.binds, lnA.vars), (lnB.binds, lnB.vars)] = 0
 have h1 : lnA.binds = 0 := by rw [Nd.binds_eq]; rfl
 have h2 : lnB.binds = 0 := by rw [Nd.binds_eq]; rfl
 rw [h1, h2, lvarsA, lvarsB]
 simp [bindsFrom, meets, hasS, lba]
theorem lpat : patErr lpL = 0 := by
 have h : patOwn lpL = false := by rfl
 rw [patErr, h, if_neg Bool.false_ne_true, if_pos (show lpL.node.shape = 0 by rfl), if_pos (show lpL.node.binds = 0 from lbi)]
 rfl
theorem lplanE : planE putM lpL = (lxL, 0) := by rw [planE, if_pos lpat, lplan]
theorem lerr : planErr lxL = 0 := by rfl
theorem ldeep : deepOf lxL 3 = 3 := by rfl
theorem lok_leaf {v t : ByteArray} (hv : v.size < 4611686018427387904) (ht : t.size < 4611686018427387904) : (Nd.mk 1 v t [] []).ok := by
 rw [Nd.ok_eq]
 exact ⟨⟨hv, ht, (by show 0 < 4611686018427387904; decide), fun c h => by cases h⟩, fun p h => by cases h⟩
theorem lokS : lnS.ok := by
 rw [Nd.ok_eq]
 refine ⟨⟨by decide, by decide, by decide, fun c h => by cases h⟩, fun p h => ?_⟩
 have h : p ∈ [lnA.ok, lnB.ok] := h
 rcases List.mem_cons.1 h with rfl | h
 ·exact lok_leaf (by decide) (by decide)
 ·rw [List.mem_singleton.1 h]; exact lok_leaf (by decide) (by decide)
theorem lokP : okPat lpL := ⟨by decide, by show lnS.size ≤ 1048576; rw [show lnS.size = 3 from rfl]; decide, lokS, by decide, fun c h => by cases h⟩
theorem linr_leaf (v t : ByteArray) : (Nd.mk 1 v t [] []).inr := by
 rw [Nd.inr_eq]
 exact ⟨(fun c h => by cases h), (fun p h => by cases h)⟩
theorem linr : lnS.inr := by
 rw [Nd.inr_eq]
 refine ⟨(fun c h => by cases h), fun p h => ?_⟩
 have h : p ∈ [lnA.inr, lnB.inr] := h
 rcases List.mem_cons.1 h with rfl | h
 ·exact linr_leaf _ _
 ·rw [List.mem_singleton.1 h]; exact linr_leaf _ _
theorem lxok : okPlN lxL := by
 refine ⟨fun o ho => ?_, by decide, by decide, by decide⟩
 have : o = loA ∨ o = loB ∨ o = loS ∨ o = loR := by simpa [lxL] using ho
 rcases this with rfl | rfl | rfl | rfl <;> exact ⟨⟨by decide, by decide⟩, by decide, by decide⟩
def fitN (n : Nd) : Bool := decide (n.terms ≤ 200) && decide (n.deep ≤ 50)
theorem fit_spec (n : Nd) (hn : n.small) : PCalls Tryz.prog 7 [.agg (encNd n)] (fun v => v = .c (.bool (fitN n))) := by
 have q2 : ((n.deep : Int) ≤ 50) = (n.deep ≤ 50) := by rw [eq_iff_iff]; omega
 refine PCalls.intro Tryz.call7 Tryz.func7 rfl Tryz.ntmps7 Tryz.results7 (by simp) ?_
 refine AW.sr @nd ?_
 refine AW.seq_j (fun s' σ' => σ' = Hp.empty ∧ s'.t 2 = .c (.bool (fitN n))) ?_ ?_
 ·by_cases ht : n.terms ≤ 200
  ·have q1 : ((n.terms : Int) ≤ 200) = True := eq_true (by omega)
   refine AW.reg0 ?_
   refine S.one (J3 @nd q1 q2) ?_
   (refine S.g rfl rfl fun Y Z => ?_; simp only [zz, simprocAttr, -Int.reduceNatCast', -Int.reduceToNat, nd, q1, q2]; refine PCalls.eqto (rterms_spec n hn) ?_ <;> (refine Z _ _ ?_; clear Z Y))
   all_goals (refine S.sp (J3 @nd q1 q2) fun b a5 => ?_; cases b <;> (try exact nope a5))
   all_goals iterate 2 refine S.one (J3 @nd q1 q2) ?_
   all_goals (first | (refine S.y rfl rfl rfl rfl fun Y Z => ?_; simp only [zz, simprocAttr, -Int.reduceNatCast', -Int.reduceToNat, nd, q1, q2]; refine PCalls.eqto (rdeep_spec n hn) ?_ <;> (refine Z _ _ ?_; clear Z Y)) | ((first | refine S.x rfl rfl rfl rfl fun Y Z => ?_ | refine S.u rfl rfl rfl rfl fun Y Z => ?_); simp only [ze, simprocAttr, -Int.reduceNatCast', -Int.reduceToNat]; refine Z _ _ ?_; clear Z Y))
   all_goals iterate 3 refine S.one (J3 @nd q1 q2) ?_
   all_goals refine S.nil ?_
   all_goals simp only [ze, simprocAttr, nd, q1, q2]
   all_goals simp_all [fitN]
  ·have q1 : ((n.terms : Int) ≤ 200) = False := eq_false (by omega)
   refine AW.reg0 ?_
   refine S.one (J3 @nd q1 q2) ?_
   (refine S.g rfl rfl fun Y Z => ?_; simp only [zz, simprocAttr, -Int.reduceNatCast', -Int.reduceToNat, nd, q1, q2]; refine PCalls.eqto (rterms_spec n hn) ?_ <;> (refine Z _ _ ?_; clear Z Y))
   all_goals (refine S.sp (J3 @nd q1 q2) fun b a5 => ?_; cases b <;> (try exact nope a5))
   all_goals iterate 2 refine S.one (J3 @nd q1 q2) ?_
   all_goals (first | (refine S.y rfl rfl rfl rfl fun Y Z => ?_; simp only [zz, simprocAttr, -Int.reduceNatCast', -Int.reduceToNat, nd, q1, q2]; refine PCalls.eqto (rdeep_spec n hn) ?_ <;> (refine Z _ _ ?_; clear Z Y)) | ((first | refine S.x rfl rfl rfl rfl fun Y Z => ?_ | refine S.u rfl rfl rfl rfl fun Y Z => ?_); simp only [ze, simprocAttr, -Int.reduceNatCast', -Int.reduceToNat]; refine Z _ _ ?_; clear Z Y))
   all_goals iterate 3 refine S.one (J3 @nd q1 q2) ?_
   all_goals refine S.nil ?_
   all_goals simp only [ze, simprocAttr, nd, q1, q2]
   all_goals (simp_all [fitN] <;> omega)
 rintro s σ ⟨rfl, e2⟩
 refine AW.ret ?_
 all_goals simp only [zs, simprocAttr, e2]
 all_goals ((try and_intros) <;> first | rfl | assumption | (rfl))
theorem live_spec {tq : Nat × Nat × Nat} : ACalls Tryz.prog 8 [] (tabH tq) (fun v σ' => σ' = tabH tq ∧ v = .c (.bool true)) := by
 have hof := Of_spec (tq := tq) lpL lokP linr (fun c h => by cases h) (by unfold inI64; decide)
 rw [lplanE] at hof
 have heq := equalI [0, 1] [0, 1] (by decide)
 have hchk := planCheck_spec lxL lxok
 rw [lerr] at hchk
 have hdeep := deep_spec_ lxL lxok 3 (by unfold inI64; decide)
 rw [ldeep] at hdeep
 refine ACalls.intro Tryz.call8 Tryz.func8 rfl Tryz.ntmps8 Tryz.results8 (by simp) ?_
 all_goals refine AW.sr trivial ?_
 refine AW.seq_k fun K2 h2 => ?_
 all_goals refine AW.reg0 ?_
 all_goals iterate 2 refine S.one trivial ?_
 all_goals (refine S.g rfl rfl fun Y Z => ?_; simp only [zb, simprocAttr, -Int.reduceNatCast', -Int.reduceToNat, tt]; refine ⟨rfl, (by simp), ?_⟩ <;> (refine Z _ _ ?_; clear Z Y))
 all_goals iterate 4 refine S.one trivial ?_
 all_goals (refine S.nil ?_; simp only [ze, simprocAttr]; apply_assumption)
 refine AW.seq_k fun K3 h3 => ?_
 all_goals refine AW.reg0 ?_
 all_goals refine S.one @encPl.eq_1 ?_
 all_goals (refine S.g rfl rfl fun Y Z => ?_; simp only [zz, simprocAttr, -Int.reduceNatCast', -Int.reduceToNat, encPl]; (refine ACalls.wkA (ACalls.to hof ?_); rintro v1 σ1 ⟨rfl, rfl⟩) <;> (refine Z _ _ ?_; clear Z Y))
 all_goals iterate 6 refine S.one @encPl.eq_1 ?_
 all_goals (refine S.nil ?_; simp only [ze, simprocAttr, encPl]; apply_assumption)
 refine AW.st (fun s' => s'.t 2 = .lp 2 0 ∧ s'.l 2 = some [.sl (lxL.ops.map encOp), .sl (lxL.from_.map encF)] ∧ s'.t 3 = .c (.int .i64 0)) ?_ ?_
 ·simp only [zs, simprocAttr]
  all_goals ((try and_intros) <;> first | rfl | assumption | (rfl))
 rintro s ⟨e2, l2, e3⟩
 have g1 : (lxL.ops.map encOp).length = 4 := rfl
 have g2 : (lxL.from_.map encF).length = 4 := rfl
 have g3 : (lxL.ops.map encOp).getD 2 [] = encOp loS := rfl
 have g4 : (lxL.from_.map encF).getD 2 [] = [.sl [[.c (.int .i64 0)], [.c (.int .i64 1)]]] := rfl
 have g5 : loS.kind = 2 := rfl
 have g6 : allEq eqI [0, 1] [0, 1] = true := rfl
 rw [g6] at heq
 simp only [List.map_cons, List.map_nil, encI] at heq
 unfold encPl at hchk hdeep
 generalize lxL.ops.map encOp = lo at *
 generalize lxL.from_.map encF = lf at *
 have h44 : (((4 : Nat) : Int) == 4) = true := rfl
 have h22 : ((2 : Int) == 2) = true := rfl
 have h24 : ((2 : Int) < ((4 : Nat) : Int)) = True := eq_true (by decide)
 have h24n : ((2 : Nat) < 4) = True := eq_true (by decide)
 have h33 : ((3 : Int) == 3) = true := rfl
 have h00 : ((0 : Int) == 0) = true := rfl
 refine AW.seq_k fun K4 h4 => ?_
 all_goals refine AW.reg0 ?_
 all_goals (refine S.g rfl rfl fun Y Z => ?_; simp only [zz, simprocAttr, -Int.reduceNatCast', -Int.reduceToNat, e2, l2, e3, g1, g2, g3, g4, g5, encOp, h44, h22, h33, h00, h24, h24n, Int.reduceToNat, Int.reduceLE, Int.reduceLT]; refine Z _ _ ?_; clear Z Y)
 all_goals (refine S.sp (J12 e2 l2 e3 g1 g2 g3 g4 g5 @encOp.eq_1 h44 h22 (J4 h33 h00 h24 h24n)) fun b a15 => ?_; cases b <;> (try exact nope a15))
 all_goals iterate 4 ((first | refine S.g rfl rfl fun Y Z => ?_ | refine S.y rfl rfl rfl rfl fun Y Z => ?_ | refine S.x rfl rfl rfl rfl fun Y Z => ?_ | refine S.u rfl rfl rfl rfl fun Y Z => ?_); simp only [zz, simprocAttr, -Int.reduceNatCast', -Int.reduceToNat, e2, l2, e3, g1, g2, g3, g4, g5, encOp, h44, h22, h33, h00, h24, h24n, Int.reduceToNat, Int.reduceLE, Int.reduceLT, tt]; refine Z _ _ ?_; clear Z Y)
 all_goals (first | (refine S.sp (J12 e2 l2 e3 g1 g2 g3 g4 g5 @encOp.eq_1 h44 h22 (J4 h33 h00 h24 h24n)) fun b a20 => ?_; cases b <;> (try exact nope a20)) | ((first | refine S.x rfl rfl rfl rfl fun Y Z => ?_ | refine S.u rfl rfl rfl rfl fun Y Z => ?_); simp only [ze, simprocAttr, -Int.reduceNatCast', -Int.reduceToNat]; refine Z _ _ ?_; clear Z Y))
 all_goals iterate 5 ((first | refine S.g rfl rfl fun Y Z => ?_ | refine S.y rfl rfl rfl rfl fun Y Z => ?_ | refine S.x rfl rfl rfl rfl fun Y Z => ?_ | refine S.u rfl rfl rfl rfl fun Y Z => ?_); simp only [zz, simprocAttr, -Int.reduceNatCast', -Int.reduceToNat, e2, l2, e3, g1, g2, g3, g4, g5, encOp, h44, h22, h33, h00, h24, h24n, Int.reduceToNat, Int.reduceLE, Int.reduceLT, tt]; refine Z _ _ ?_; clear Z Y)
 all_goals (first | (refine S.sp (J12 e2 l2 e3 g1 g2 g3 g4 g5 @encOp.eq_1 h44 h22 (J4 h33 h00 h24 h24n)) fun b a26 => ?_; cases b <;> (try exact nope a26)) | ((first | refine S.x rfl rfl rfl rfl fun Y Z => ?_ | refine S.u rfl rfl rfl rfl fun Y Z => ?_); simp only [ze, simprocAttr, -Int.reduceNatCast', -Int.reduceToNat]; refine Z _ _ ?_; clear Z Y))
 all_goals iterate 7 ((first | refine S.g rfl rfl fun Y Z => ?_ | refine S.y rfl rfl rfl rfl fun Y Z => ?_ | refine S.x rfl rfl rfl rfl fun Y Z => ?_ | refine S.u rfl rfl rfl rfl fun Y Z => ?_); simp only [zz, simprocAttr, -Int.reduceNatCast', -Int.reduceToNat, e2, l2, e3, g1, g2, g3, g4, g5, encOp, h44, h22, h33, h00, h24, h24n, Int.reduceToNat, Int.reduceLE, Int.reduceLT, tt]; refine Z _ _ ?_; clear Z Y)
 all_goals (first | (refine S.sp (J12 e2 l2 e3 g1 g2 g3 g4 g5 @encOp.eq_1 h44 h22 (J4 h33 h00 h24 h24n)) fun b a34 => ?_; cases b <;> (try exact nope a34)) | ((first | refine S.x rfl rfl rfl rfl fun Y Z => ?_ | refine S.u rfl rfl rfl rfl fun Y Z => ?_); simp only [ze, simprocAttr, -Int.reduceNatCast', -Int.reduceToNat]; refine Z _ _ ?_; clear Z Y))
 all_goals iterate 6 ((first | refine S.g rfl rfl fun Y Z => ?_ | refine S.y rfl rfl rfl rfl fun Y Z => ?_ | refine S.x rfl rfl rfl rfl fun Y Z => ?_ | refine S.u rfl rfl rfl rfl fun Y Z => ?_); simp only [zz, simprocAttr, -Int.reduceNatCast', -Int.reduceToNat, e2, l2, e3, g1, g2, g3, g4, g5, encOp, h44, h22, h33, h00, h24, h24n, Int.reduceToNat, Int.reduceLE, Int.reduceLT, tt]; refine Z _ _ ?_; clear Z Y)
 all_goals (first | (refine S.y rfl rfl rfl rfl fun Y Z => ?_; simp only [zb, simprocAttr, -Int.reduceNatCast', -Int.reduceToNat, tt, e2, l2, e3, g1, g2, g3, g4, g5, encOp, h44, h22, h33, h00, h24, h24n, Int.reduceToNat, Int.reduceLE, Int.reduceLT]; refine ⟨rfl, (by simp), ?_⟩ <;> (refine Z _ _ ?_; clear Z Y)) | ((first | refine S.x rfl rfl rfl rfl fun Y Z => ?_ | refine S.u rfl rfl rfl rfl fun Y Z => ?_); simp only [ze, simprocAttr, -Int.reduceNatCast', -Int.reduceToNat]; refine Z _ _ ?_; clear Z Y))
 all_goals (first | (refine S.y rfl rfl rfl rfl fun Y Z => ?_; simp only [zz, simprocAttr, -Int.reduceNatCast', -Int.reduceToNat, e2, l2, e3, g1, g2, g3, g4, g5, encOp, h44, h22, h33, h00, h24, h24n, Int.reduceToNat, Int.reduceLE, Int.reduceLT]; refine PCalls.eqto heq ?_; refine S.bool fun b a42 => ?_; cases b <;> (try exact nope a42) <;> (refine Z _ _ ?_; clear Z Y)) | ((first | refine S.x rfl rfl rfl rfl fun Y Z => ?_ | refine S.u rfl rfl rfl rfl fun Y Z => ?_); simp only [ze, simprocAttr, -Int.reduceNatCast', -Int.reduceToNat]; refine Z _ _ ?_; clear Z Y))
 all_goals iterate 3 ((first | refine S.g rfl rfl fun Y Z => ?_ | refine S.y rfl rfl rfl rfl fun Y Z => ?_ | refine S.x rfl rfl rfl rfl fun Y Z => ?_ | refine S.u rfl rfl rfl rfl fun Y Z => ?_); simp only [zz, simprocAttr, -Int.reduceNatCast', -Int.reduceToNat, e2, l2, e3, g1, g2, g3, g4, g5, encOp, h44, h22, h33, h00, h24, h24n, Int.reduceToNat, Int.reduceLE, Int.reduceLT, tt]; refine Z _ _ ?_; clear Z Y)
 all_goals (first | (refine S.y rfl rfl rfl rfl fun Y Z => ?_; simp only [zz, simprocAttr, -Int.reduceNatCast', -Int.reduceToNat, e2, l2, e3, g1, g2, g3, g4, g5, encOp, h44, h22, h33, h00, h24, h24n, Int.reduceToNat, Int.reduceLE, Int.reduceLT]; refine PCalls.eqto hchk ?_ <;> (refine Z _ _ ?_; clear Z Y)) | ((first | refine S.x rfl rfl rfl rfl fun Y Z => ?_ | refine S.u rfl rfl rfl rfl fun Y Z => ?_); simp only [ze, simprocAttr, -Int.reduceNatCast', -Int.reduceToNat]; refine Z _ _ ?_; clear Z Y))
 all_goals (first | (refine S.sp (J12 e2 l2 e3 g1 g2 g3 g4 g5 @encOp.eq_1 h44 h22 (J4 h33 h00 h24 h24n)) fun b a47 => ?_; cases b <;> (try exact nope a47)) | ((first | refine S.x rfl rfl rfl rfl fun Y Z => ?_ | refine S.u rfl rfl rfl rfl fun Y Z => ?_); simp only [ze, simprocAttr, -Int.reduceNatCast', -Int.reduceToNat]; refine Z _ _ ?_; clear Z Y))
 all_goals iterate 3 ((first | refine S.g rfl rfl fun Y Z => ?_ | refine S.y rfl rfl rfl rfl fun Y Z => ?_ | refine S.x rfl rfl rfl rfl fun Y Z => ?_ | refine S.u rfl rfl rfl rfl fun Y Z => ?_); simp only [zz, simprocAttr, -Int.reduceNatCast', -Int.reduceToNat, e2, l2, e3, g1, g2, g3, g4, g5, encOp, h44, h22, h33, h00, h24, h24n, Int.reduceToNat, Int.reduceLE, Int.reduceLT, tt]; refine Z _ _ ?_; clear Z Y)
 all_goals (first | (refine S.y rfl rfl rfl rfl fun Y Z => ?_; simp only [zz, simprocAttr, -Int.reduceNatCast', -Int.reduceToNat, e2, l2, e3, g1, g2, g3, g4, g5, encOp, h44, h22, h33, h00, h24, h24n, Int.reduceToNat, Int.reduceLE, Int.reduceLT]; refine PCalls.eqto hdeep ?_ <;> (refine Z _ _ ?_; clear Z Y)) | ((first | refine S.x rfl rfl rfl rfl fun Y Z => ?_ | refine S.u rfl rfl rfl rfl fun Y Z => ?_); simp only [ze, simprocAttr, -Int.reduceNatCast', -Int.reduceToNat]; refine Z _ _ ?_; clear Z Y))
 all_goals iterate 3 ((first | refine S.g rfl rfl fun Y Z => ?_ | refine S.y rfl rfl rfl rfl fun Y Z => ?_ | refine S.x rfl rfl rfl rfl fun Y Z => ?_ | refine S.u rfl rfl rfl rfl fun Y Z => ?_); simp only [zz, simprocAttr, -Int.reduceNatCast', -Int.reduceToNat, e2, l2, e3, g1, g2, g3, g4, g5, encOp, h44, h22, h33, h00, h24, h24n, Int.reduceToNat, Int.reduceLE, Int.reduceLT]; refine Z _ _ ?_; clear Z Y)
 all_goals (refine S.nil ?_; simp only [ze, simprocAttr, e2, l2, e3, g1, g2, g3, g4, g5, encOp, h44, h22, h33, h00, h24, h24n, Int.reduceToNat, Int.reduceLE, Int.reduceLT]; apply_assumption)
 refine AW.ret ?_
 all_goals simp only [zs, simprocAttr]
 all_goals ((try and_intros) <;> first | rfl | assumption | (rfl))
theorem planE_same (p : Pat) : planE putM p = planE putPl p := by rw [planE, planE, planR_same]
theorem eqC_refl (c : Cnd) : eqC c c = true := by
 have h : ∀ b : ByteArray, eqS b b = true := fun b => eqS_iff.2 rfl
 simp only [eqC, h, beq_self_eq_true, Bool.and_self]
theorem sameOp_refl (a : OpS) : sameOp a a = true := by
 have h : ∀ b : ByteArray, eqS b b = true := fun b => eqS_iff.2 rfl
 have h1 : ∀ l : List Cnd, allEq eqC l l = true := allEq_refl eqC_refl
 simp only [sameOp, h, h1, beq_self_eq_true, Bool.and_self]
theorem samePl_refl (x : Pln) : samePl x x = true := by
 have h1 : allEq sameOp x.ops x.ops = true := allEq_refl sameOp_refl x.ops
 have h3 : ∀ a : List Int, allEq eqI a a = true := allEq_refl fun z => beq_self_eq_true z
 have h2 : allEq (allEq eqI) x.from_ x.from_ = true := allEq_refl h3 x.from_
 rw [samePl, h1, h2]; rfl
theorem planE_ok {p : Pat} (hp : okPat p) (hi : p.node.inr) (hci : ∀ c ∈ p.conds, cI c) : okPl (planE putPl p).1 := by
 rw [planE]
 split
 ·rename_i he
  have hg := good_of he hi hci
  have hsz := hg.size
  have h1 := mkR_len putPl_len (w := p.within) p.node ⟨[], []⟩ p.conds rfl
  have h2 := mkR_few (w := p.within) p.node hp.small hg.err ⟨[], []⟩ p.conds few_nil hg.len
  rw [planR]
  generalize p.node.mkR putPl p.within ⟨[], []⟩ p.conds = r at h1 h2
  have h3 := putPl_len r.1 ⟨5, ⟨#[]⟩, ⟨#[]⟩, [], [], p.within, 1⟩ [(r.2 : Int)] h1.1
  have h4 := few_put h2 (okOp_root p.within) (f := [(r.2 : Int)]) (by show 1 < _; decide)
  simp only [List.length_nil, Nat.zero_add] at h1
  generalize putPl r.1 ⟨5, ⟨#[]⟩, ⟨#[]⟩, [], [], p.within, 1⟩ [(r.2 : Int)] = y at h3 h4
  exact ⟨by show y.1.ops.length < _; omega, by show y.1.from_.length < _; omega, h4.1, h4.2⟩
 ·exact ⟨by show 0 < _; decide, by show 0 < _; decide, few_nil.1, few_nil.2⟩
theorem planOf_law {tq : Nat × Nat × Nat} (p : Pat) (hp : okPat p) (hi : p.node.inr) (hci : ∀ c ∈ p.conds, cI c) (hw : inI64 p.within) :
  ACalls Tryz.prog 3 [.agg (encPat p)] (tabH tq) (fun v σ' => σ' = tabH tq ∧ v = .c (.bool true)) := by
 have hof := Of_spec (tq := tq) p hp hi hci hw
 have hrof := rOf_spec p hp hi hci
 have hok := planE_ok hp hi hci
 have hE := (encNd_eq p.node).symm
 rw [planE_same] at hof
 generalize planE putPl p = y at hof hrof hok
 have hsame := rSame_spec y.1 y.1 hok
 rw [samePl_refl] at hsame
 unfold encPl at hof hrof hsame
 refine ACalls.intro Tryz.call3 Tryz.func3 rfl Tryz.ntmps3 Tryz.results3 (by simp) ?_
 refine AW.sr @encPat.eq_1 ?_
 refine AW.seq_j (fun s' σ' => σ' = tabH tq ∧ s'.t 1 = .lp 1 0 ∧ s'.l 1 = some (encPat p)) ?_ ?_
 ·refine AW.seq_j (fun s' σ' => σ' = tabH tq ∧ s'.t 1 = .lp 1 0 ∧ s'.l 1 = some (encPat p) ∧ s'.t 14 = .c (.bool (!fitN p.node))) ?_ ?_
  ·skip
   refine AW.reg0 ?_
   iterate 2 refine S.one (J2 hE @nd) ?_
   (refine S.g rfl rfl fun Y Z => ?_; simp only [zz, simprocAttr, -Int.reduceNatCast', -Int.reduceToNat, hE, nd]; refine PCalls.eqto (fit_spec p.node hp.small) ?_; refine S.bool fun b a9 => ?_; cases b <;> (try exact nope a9) <;> (refine Z _ _ ?_; clear Z Y))
   all_goals iterate 2 refine S.one (J2 hE @nd) ?_
   all_goals (first | (refine S.y rfl rfl rfl rfl fun Y Z => ?_; simp only [zz, simprocAttr, -Int.reduceNatCast', -Int.reduceToNat, hE, nd]; (refine ACalls.to (live_spec (tq := tq)) ?_; rintro v1 σ1 ⟨rfl, rfl⟩) <;> (refine Z _ _ ?_; clear Z Y)) | ((first | refine S.x rfl rfl rfl rfl fun Y Z => ?_ | refine S.u rfl rfl rfl rfl fun Y Z => ?_); simp only [ze, simprocAttr, -Int.reduceNatCast', -Int.reduceToNat]; refine Z _ _ ?_; clear Z Y))
   all_goals iterate 2 refine S.one (J2 hE @nd) ?_
   all_goals refine S.nil ?_
   all_goals simp only [ze, simprocAttr, hE, nd]
   all_goals simp_all [encPat]
  rintro s σ ⟨rfl, e1, l1, e14⟩
  refine AW.cond (b := !fitN p.node) e14 (fun hb => ?_) (fun hb => ?_)
  ·refine AW.seq_k fun K2 h2 => ?_
   refine AW.reg0 ?_
   (refine S.g rfl rfl fun Y Z => ?_; simp only [zz, simprocAttr, -Int.reduceNatCast', -Int.reduceToNat]; (refine ACalls.to (live_spec (tq := tq)) ?_; rintro v1 σ1 ⟨rfl, rfl⟩) <;> (refine Z _ _ ?_; clear Z Y))
   all_goals refine S.one trivial ?_
   all_goals (refine S.nil ?_; simp only [ze, simprocAttr]; apply_assumption)
   refine AW.ret ?_
   all_goals simp only [zs, simprocAttr]
   all_goals ((try and_intros) <;> first | rfl | assumption | (rfl))
  ·refine AW.skip ?_
   exact ⟨rfl, e1, l1⟩
 rintro s σ ⟨rfl, e1, l1⟩
 unfold encPat at l1
 refine AW.seq_k fun K3 h3 => ?_
 all_goals refine AW.reg0 ?_
 all_goals refine S.one (J3 e1 l1 @encPat.eq_1) ?_
 all_goals (refine S.g rfl rfl fun Y Z => ?_; simp only [zz, simprocAttr, -Int.reduceNatCast', -Int.reduceToNat, e1, l1, encPat]; (refine ACalls.to hof ?_; rintro v1 σ1 ⟨rfl, rfl⟩) <;> (refine Z _ _ ?_; clear Z Y))
 all_goals iterate 6 refine S.one (J3 e1 l1 @encPat.eq_1) ?_
 all_goals (refine S.nil ?_; simp only [ze, simprocAttr, e1, l1, encPat]; apply_assumption)
 refine AW.seq_k fun K4 h4 => ?_
 all_goals refine AW.reg0 ?_
 all_goals refine S.one (J3 e1 l1 @encPat.eq_1) ?_
 all_goals (refine S.g rfl rfl fun Y Z => ?_; simp only [zz, simprocAttr, -Int.reduceNatCast', -Int.reduceToNat, e1, l1, encPat]; refine PCalls.eqto hrof ?_ <;> (refine Z _ _ ?_; clear Z Y))
 all_goals iterate 6 refine S.one (J3 e1 l1 @encPat.eq_1) ?_
 all_goals (refine S.nil ?_; simp only [ze, simprocAttr, e1, l1, encPat]; apply_assumption)
 refine AW.st (fun s' => s'.t 3 = .lp 3 0 ∧ s'.l 3 = some [.sl (y.1.ops.map encOp), .sl (y.1.from_.map encF)] ∧ s'.t 4 = .c (.int .i64 y.2) ∧ s'.t 5 = .lp 5 0 ∧ s'.l 5 = some [.sl (y.1.ops.map encOp), .sl (y.1.from_.map encF)] ∧ s'.t 6 = .c (.int .i64 y.2)) ?_ ?_
 ·simp only [zs, simprocAttr, e1, l1]
  all_goals ((try and_intros) <;> first | rfl | assumption | (rfl))
 clear e1 l1 s
 rintro s ⟨e3, l3, e4, e5, l5, e6⟩
 refine AW.seq_j (fun s' σ' => σ' = tabH tq ∧ s'.t 2 = .c (.bool true)) ?_ ?_
 ·skip
  refine AW.reg0 ?_
  iterate 2 refine S.one (J6 e3 l3 e4 e5 l5 e6) ?_
  (refine S.sp (J6 e3 l3 e4 e5 l5 e6) fun b a28 => ?_; cases b <;> (try exact nope a28))
  all_goals iterate 3 refine S.one (J6 e3 l3 e4 e5 l5 e6) ?_
  all_goals (first | (refine S.y rfl rfl rfl rfl fun Y Z => ?_; simp only [zz, simprocAttr, -Int.reduceNatCast', -Int.reduceToNat, e3, l3, e4, e5, l5, e6]; refine PCalls.eqto hsame ?_ <;> (refine Z _ _ ?_; clear Z Y)) | ((first | refine S.x rfl rfl rfl rfl fun Y Z => ?_ | refine S.u rfl rfl rfl rfl fun Y Z => ?_); simp only [ze, simprocAttr, -Int.reduceNatCast', -Int.reduceToNat]; refine Z _ _ ?_; clear Z Y))
  all_goals iterate 2 refine S.one (J6 e3 l3 e4 e5 l5 e6) ?_
  all_goals refine S.nil ?_
  all_goals simp only [ze, simprocAttr, e3, l3, e4, e5, l5, e6]
  all_goals simp_all
 rintro s σ ⟨rfl, e2⟩
 refine AW.ret ?_
 all_goals simp only [zs, simprocAttr, e2]
 all_goals ((try and_intros) <;> first | rfl | assumption | (rfl))
end Go.Abs.M
namespace Go.Abs
open Go
def cxJ (W : World) (J : Nat → Prop) : Cx := { I := J, M := fun _ => .slice none 0 0, Z := fun _ => 0, nm := 0, L := fun _ => 0 }
theorem addr_block (a : Addr) (n : Nat) : (a.add n).block = a.block := by unfold Addr.add; split <;> rfl
section
variable {H : Type} {enc : TypeId × Value → H} {P : Program} {W : World} {held : Bool}
variable [Mode]
theorem open_rowJ {J : Nat → Prop} (ts : List TypeId) (hts : plainB P ts = true) (hJ : ∀ e ∈ ts, ∀ (fuel : Nat) (a : Addr) (cs : List Value) (x : DataW H × List MemPlace), P.cellsOf e ≠ 0 → W.cells? 0 a (P.cellsOf e) = some cs → DataW.trod enc P W 0 (fun _ => true) held fuel e cs = some x → J a.block) : ∀ (fuel : Nat) (t : TypeId) (cs : List Value) (d : DataW H) (ps : List MemPlace), t ∈ ts →
    DataW.trod enc P W 0 (fun _ => true) held fuel t cs = some (d, ps) → (∀ n ∈ d.weights P t, n ≤ reachBytes) → ∃ us, VRs W (cxJ W J) us cs ∧ Fit P fuel t us := by
  intro fuel
  induction fuel with
  | zero => intro t cs d ps _ h; simp [DataW.trod] at h
  | succ fuel ih =>
    intro t cs d ps ht h hwt
    have hpl := List.all_eq_true.1 hts t ht
    split at hpl
    · rename_i hu
      unfold DataW.trod at h
      rw [hu] at h
      split at h <;> simp_all
      rename_i b
      exact ⟨[.c (.bool b)], VRs.cons rfl (.c _) .nil, by simp [Fit, hu]⟩
    · rename_i k hu
      unfold DataW.trod at h
      rw [hu] at h
      split at h <;> simp_all
      rename_i k' n hk
      subst hk
      exact ⟨[.c (.int _ n)], VRs.cons rfl (.c _) .nil, by simp [Fit, hu, h.1.2]⟩
    · rename_i hu
      unfold DataW.trod at h
      rw [hu] at h
      split at h <;> simp_all
      rename_i s
      refine ⟨[.c (.string s)], VRs.cons rfl (.c _) .nil, ?_⟩
      rw [← h.2.1] at hwt
      simp [Fit, hu]
      simpa [DataW.weights] using hwt
    · rename_i e hu
      simp only [Bool.and_eq_true, bne_iff_ne, ne_eq, List.contains_iff_mem] at hpl
      obtain ⟨het, hce⟩ := hpl
      rcases DataW.trod_slice hu h with ⟨rfl, _⟩ | ⟨a, len, cap, elems, rest, n, hn, rfl, hx, hb, hl, hm, hlen, hel, hsp, hns⟩
      · exact ⟨[.sl []], VRs.cons rfl .nils .nil, by simp [Fit, hu]⟩
      · obtain rfl : fuel = n := by omega
        simp only [Prod.mk.injEq] at hx
        obtain ⟨hd, -⟩ := hx
        subst hd
        have hw0 := hwt _ (by simp only [DataW.weights, hu]; exact List.mem_cons_self)
        have hwe : ∀ i (x : DataW H × List MemPlace), elems[i]? = some x → ∀ m ∈ x.1.weights P e, m ≤ reachBytes := fun i x hi m hmm =>
          hwt m (by simp only [DataW.weights, hu]; exact List.mem_cons_of_mem _ (List.mem_append_left _ (weightsAll_mem (List.mem_map.2 ⟨x, List.mem_of_getElem? hi, rfl⟩) m hmm)))
        have hex : ∀ i, i < len → ∃ us : List V, ∃ cs', W.cells? 0 (a.add (i * P.cellsOf e)) (P.cellsOf e) = some cs' ∧ VRs W (cxJ W J) us cs' ∧ Fit P fuel e us := fun i hi => by
          have h1 := hel i hi
          rw [List.getElem?_eq_getElem (by omega)] at h1
          obtain ⟨cs', h2, h3⟩ := Option.bind_eq_some_iff.1 h1
          obtain ⟨us, h4, h5⟩ := ih e cs' _ _ het h3 (hwe i _ (List.getElem?_eq_getElem (by omega)))
          exact ⟨us, cs', h2, h4, h5⟩
        by_cases h0 : cap = 0
        · have hl0 : len = 0 := by omega
          subst h0; subst hl0
          exact ⟨[.sl []], VRs.cons rfl (.nile a) .nil, by simp [Fit, hu]⟩
        · obtain ⟨b, o, sp⟩ := a
          -- the address is a plain one, and its block is there
          have hfirst : (∃ v, W.cell? ⟨b, o, sp⟩ = some v) ∧ J b := by
            by_cases hl0 : 0 < len
            · have h1 := hel 0 hl0
              rw [List.getElem?_eq_getElem (by omega)] at h1
              obtain ⟨cs', h2, h3⟩ := Option.bind_eq_some_iff.1 h1
              have hJb : J b := by have := hJ e het _ _ _ _ hce h2 h3; rwa [addr_block] at this
              refine ⟨?_, hJb⟩
              obtain ⟨_, hcl, hce'⟩ := World.cells?_some h2
              have := hce' 0 (by omega)
              rw [Nat.zero_mul] at this
              have e0 : ((⟨b, o, sp⟩ : Addr).add 0).add 0 = ⟨b, o, sp⟩ := rfl
              rw [e0] at this
              rw [this]
              exact ⟨cs'[0]'(by omega), List.getElem?_eq_getElem (by omega)⟩
            · have hl0 : len = 0 := by omega
              subst hl0
              obtain ⟨hr, hr2⟩ := hsp rfl
              have h1 := hr2 0 (by omega)
              rw [List.getElem?_eq_getElem (by omega)] at h1
              obtain ⟨cs', h2, h3⟩ := Option.bind_eq_some_iff.1 h1
              have hJb : J b := by have := hJ e het _ _ _ _ hce h2 h3; rwa [addr_block] at this
              refine ⟨?_, hJb⟩
              obtain ⟨_, hcl, hce'⟩ := World.cells?_some h2
              have := hce' 0 (by omega)
              have e0 : ((⟨b, o, sp⟩ : Addr).add ((0 + 0) * P.cellsOf e)).add 0 = ⟨b, o, sp⟩ := by simp [Addr.add]
              rw [e0] at this
              rw [this]
              exact ⟨cs'[0]'(by omega), List.getElem?_eq_getElem (by omega)⟩
          obtain ⟨⟨v0, hv0⟩, hJb⟩ := hfirst
          obtain rfl : sp = none := World.cell?_spot hv0
          have hbI : (cxJ W J).I b := hJb
          obtain ⟨F, hF⟩ := choose_below (p := fun i (us : List V) => ∃ cs', W.cells? 0 ((⟨b, o, none⟩ : Addr).add (i * P.cellsOf e)) (P.cellsOf e) = some cs' ∧ VRs W (cxJ W J) us cs' ∧ Fit P fuel e us) hex
          obtain ⟨G, hG⟩ := choose_below (p := fun i (cs' : List Value) => W.cells? 0 ((⟨b, o, none⟩ : Addr).add (i * P.cellsOf e)) (P.cellsOf e) = some cs' ∧ VRs W (cxJ W J) (F i) cs' ∧ Fit P fuel e (F i)) hF
          have hGl : ∀ i, i < len → (G i).length = P.cellsOf e := fun i hi => (World.cells?_some (hG i hi).1).2.1
          have hFl : ∀ i, i < len → (F i).length = P.cellsOf e := fun i hi => by rw [(hG i hi).2.1.1]; exact hGl i hi
          have hgi : ∀ (i : Nat) (x : List V), ((List.range len).map F)[i]? = some x → i < len ∧ x = F i := fun i x hx => by
            rw [List.getElem?_map] at hx
            by_cases hi : i < len
            · simp [hi] at hx; exact ⟨hi, hx.symm⟩
            · simp [hi] at hx
          refine ⟨[.sl ((List.range len).map F)], VRs.cons rfl ?_ .nil, ?_⟩
          · have := VR.sl (w := W) (cx := cxJ W J) (es := (List.range len).map F) (sz := P.cellsOf e) (b := b) (o := o) (cap := cap) (fun i j => (G i).getD j undef) hbI (by simpa using hl)
              (fun i x hx => by obtain ⟨hi, rfl⟩ := hgi i x hx; exact hFl i hi)
              (fun i j hi hj => by
                have hi : i < len := by simpa using hi
                obtain ⟨_, _, hc⟩ := World.cells?_some (hG i hi).1
                have := hc j hj
                rw [Addr.add_lit, Addr.add_lit] at this
                rw [this, List.getElem?_eq_getElem (by rw [hGl i hi]; exact hj)]
                simp [List.getD, List.getElem?_eq_getElem (show j < (G i).length by rw [hGl i hi]; exact hj)])
              (fun i x j v hx hv => by
                obtain ⟨hi, rfl⟩ := hgi i x hx
                have hj : j < (G i).length := by
                  have := (List.getElem?_eq_some_iff.1 hv).1
                  rw [hFl i hi] at this; rw [hGl i hi]; exact this
                have := (hG i hi).2.1.2.2 j v ((G i)[j]) hv (List.getElem?_eq_getElem hj)
                simpa [List.getD, List.getElem?_eq_getElem hj] using this)
              (fun i j hi hj => by
                have hi : i < len := by simpa using hi
                have hj : j < (G i).length := by rw [hGl i hi]; exact hj
                have := (hG i hi).2.1.2.1 ((G i)[j]) (List.getElem_mem hj)
                simpa [List.getD, List.getElem?_eq_getElem hj] using this)
            simpa using this
          · simp only [Fit, hu]
            refine ⟨_, rfl, ?_, fun x hx => ?_⟩
            · rw [List.length_map, List.length_range]
              rw [List.length_map, hlen] at hw0
              exact Nat.le_trans (Nat.mul_le_mul_right _ (Nat.le_add_right _ _)) hw0
            · obtain ⟨i, hi, rfl⟩ := List.mem_map.1 hx
              have hi : i < len := by simpa using hi
              exact ⟨hFl i hi, (hG i hi).2.2⟩
    · rename_i fs hu
      rw [Bool.and_eq_true] at hpl
      obtain ⟨hpl, hco⟩ := hpl
      have hpl : ∀ f ∈ fs.toList, f.type ∈ ts := fun f hf => by
        have := List.all_eq_true.1 hpl f hf; simpa using this
      obtain ⟨xs, n, hn, hx, hcl, hxl, hfs⟩ := DataW.trod_struct hu h
      obtain rfl : fuel = n := by omega
      simp only [Prod.mk.injEq] at hx
      obtain ⟨hd, -⟩ := hx
      subst hd
      obtain ⟨us, h1, h2, h3⟩ := open_fields (W := W) (cx := cxJ W J) (Ft := Fit P fuel) hcl fs.toList 0 hco (fun f hf => by
        obtain ⟨i, hi, hfi⟩ := List.getElem_of_mem hf
        have hi' : i < fs.size := by simpa using hi
        have hfi' : fs[i]? = some f := by rw [Array.getElem?_eq_getElem hi']; simpa using hfi
        have h4 := hfs i f hfi'
        rw [List.getElem?_eq_getElem (by omega)] at h4
        refine ih f.type _ _ _ (hpl f hf) h4 (fun m hm => hwt m ?_)
        simp only [DataW.weights, hu]
        refine weightsEach_mem (i := i) (t := f.type) (d := (xs[i]'(by omega)).1) ?_ ?_ m hm
        · rw [List.getElem?_map, List.getElem?_eq_getElem hi, hfi]; rfl
        · rw [List.getElem?_map, List.getElem?_eq_getElem (by omega)]; rfl)
      rw [List.drop_zero] at h1
      exact ⟨us, h1, by simp only [Fit, hu]; exact ⟨by simpa using h2, by simpa using h3⟩⟩
    · cases hpl
def freeB (P : Program) : Nat → TypeId → Bool
  | 0, _ => false
  | n + 1, t => match P.underlying t with
    | some .bool | some .string | some (.slice _) => true
    | some (.int k) => decide (k ≠ .u64)
    | some (.struct fs) => match fs[0]? with
      | some f => f.offset == 0 && P.cellsOf f.type != 0 && freeB P n f.type
      | none => false
    | _ => false
omit [Mode] in
theorem free_no : ∀ (n fuel : Nat) (t : TypeId) (cs : List Value) (x : DataW H × List MemPlace), freeB P n t = true → (∀ c ∈ cs, ∃ z, c = .int .u64 z) → DataW.trod enc P W 0 (fun _ => true) held fuel t cs = some x → False
  | 0, _, _, _, _, h, _, _ => by cases h
  | n + 1, fuel, t, cs, x, h, hc, ht => by
    have one : ∀ v, cs = [v] → ∃ z, v = .int .u64 z := fun v e => hc v (by rw [e]; exact List.mem_cons_self)
    cases fuel with
    | zero => simp [DataW.trod] at ht
    | succ fuel =>
      unfold freeB at h
      split at h
      · rename_i hu
        unfold DataW.trod at ht
        rw [hu] at ht
        split at ht <;> simp_all
      · rename_i hu
        unfold DataW.trod at ht
        rw [hu] at ht
        split at ht <;> simp_all
      · rename_i hu
        unfold DataW.trod at ht
        rw [hu] at ht
        split at ht <;> simp_all
      · rename_i k hu
        unfold DataW.trod at ht
        rw [hu] at ht
        split at ht <;> simp_all
      · rename_i fs hu
        obtain ⟨xs, m, hm, hx, hcl, hxl, hfs⟩ := DataW.trod_struct hu ht
        split at h
        · rename_i f hf
          simp only [Bool.and_eq_true, beq_iff_eq, bne_iff_ne] at h
          have h4 := hfs 0 f hf
          have h0 : 0 < xs.length := by
            have := (Array.getElem?_eq_some_iff.1 hf).1
            omega
          rw [List.getElem?_eq_getElem h0] at h4
          exact free_no n m f.type _ _ h.2 (fun c hcm => hc c (List.mem_of_mem_drop (List.mem_of_mem_take hcm))) h4
        · cases h
      · cases h
theorem open_argJ {J : Nat → Prop} {t : TypeId} {v : Value} {d : DataW H} {ps : List MemPlace} (ts : List TypeId) (hts : plainB P ts = true) (ht : t ∈ ts)
  (hJ : ∀ e ∈ ts, ∀ (fuel : Nat) (a : Addr) (cs : List Value) (x : DataW H × List MemPlace), P.cellsOf e ≠ 0 → W.cells? 0 a (P.cellsOf e) = some cs → DataW.trod enc P W 0 (fun _ => true) true fuel e cs = some x → J a.block)
  (h : DataW.Trod enc P W 0 (fun _ => true) true t v d ps) (hw : ∀ n ∈ d.weights P t, n ≤ reachBytes) : ∃ n us, VRs W (cxJ W J) us v.cells.toList ∧ Fit P n t us := by
 obtain ⟨fuel, hf⟩ := h
 obtain ⟨us, h1, h2⟩ := open_rowJ ts hts hJ fuel t _ d ps ht hf hw
 exact ⟨fuel, us, h1, h2⟩
theorem apart_free {ts : List TypeId} (n : Nat) (hf : ts.all (freeB P n) = true) {us : List Value} {T p q : Nat} (h0 : W.heap[0]? = some (.cells ⟨us⟩ T (p, q))) (hu : ∀ c ∈ us, ∃ z, c = .int .u64 z) :
  ∀ e ∈ ts, ∀ (fuel : Nat) (a : Addr) (cs : List Value) (x : DataW H × List MemPlace), P.cellsOf e ≠ 0 → W.cells? 0 a (P.cellsOf e) = some cs → DataW.trod enc P W 0 (fun _ => true) held fuel e cs = some x → a.block < W.heap.size ∧ a.block ≠ 0 := fun e he fuel a cs x hne hcs ht => by
 obtain ⟨_, hcl, hce⟩ := World.cells?_some hcs
 have hall : ∀ i, i < P.cellsOf e → ∃ v, W.cell? (a.add i) = some v ∧ cs[i]? = some v := fun i hi => by
  have := hce i hi
  exact ⟨cs[i]'(by omega), by rw [this]; exact List.getElem?_eq_getElem (by omega), List.getElem?_eq_getElem (by omega)⟩
 obtain ⟨v0, hv0, _⟩ := hall 0 (by omega)
 refine ⟨lt_of_cell hv0, fun hb => ?_⟩
 refine free_no n fuel e cs x (List.all_eq_true.1 hf e he) (fun c hc => ?_) ht
 obtain ⟨i, hi⟩ := List.getElem?_of_mem hc
 have hil : i < P.cellsOf e := by have := (List.getElem?_eq_some_iff.1 hi).1; omega
 obtain ⟨v, hv, hvi⟩ := hall i hil
 rw [hi] at hvi
 injection hvi with hvi
 subst hvi
 have hbl : (a.add i).block = 0 := by rw [addr_block]; exact hb
 unfold World.cell? at hv
 rw [hbl, h0] at hv
 simp only at hv
 split at hv
 ·cases hv
 ·exact hu c (by
   have := Array.mem_of_getElem? hv
   simpa using this)
end
end Go.Abs
namespace Go.Abs.M
open Go Go.Abs Go.Proofs
open Go.Proofs.YtkijhgplmikboaaGreatDoor.Rows (uptoBulk uptoBulkAll)
set_option maxRecDepth 20000
theorem co2 : Tryz.prog.cellsOf 2 = 1 := by kernel_rfl
theorem co3 : Tryz.prog.cellsOf 3 = 1 := by kernel_rfl
theorem co9 : Tryz.prog.cellsOf 9 = 1 := by kernel_rfl
theorem co22 : Tryz.prog.cellsOf 22 = 1 := by kernel_rfl
theorem co23 : Tryz.prog.cellsOf 23 = 1 := by kernel_rfl
theorem co25 : Tryz.prog.cellsOf 25 = 5 := by kernel_rfl
theorem co27 : Tryz.prog.cellsOf 27 = 8 := by kernel_rfl
theorem co43 : Tryz.prog.cellsOf 43 = 3 := by kernel_rfl
theorem co45 : Tryz.prog.cellsOf 45 = 5 := by kernel_rfl
theorem co47 : Tryz.prog.cellsOf 47 = 11 := by kernel_rfl
theorem len5 {us : List V} (h : us.length = 5) : ∃ x0 x1 x2 x3 x4, us = [x0, x1, x2, x3, x4] := by
 match us, h with
 | [x0, x1, x2, x3, x4], _ => exact ⟨x0, x1, x2, x3, x4, rfl⟩
theorem len8 {us : List V} (h : us.length = 8) : ∃ x0 x1 x2 x3 x4 x5 x6 x7, us = [x0, x1, x2, x3, x4, x5, x6, x7] := by
 match us, h with
 | [x0, x1, x2, x3, x4, x5, x6, x7], _ => exact ⟨x0, x1, x2, x3, x4, x5, x6, x7, rfl⟩
theorem len11 {us : List V} (h : us.length = 11) : ∃ x0 x1 x2 x3 x4 x5 x6 x7 x8 x9 x10, us = [x0, x1, x2, x3, x4, x5, x6, x7, x8, x9, x10] := by
 match us, h with
 | [x0, x1, x2, x3, x4, x5, x6, x7, x8, x9, x10], _ => exact ⟨x0, x1, x2, x3, x4, x5, x6, x7, x8, x9, x10, rfl⟩
theorem inI64_of {x : Int} (h : (Lit.int .i64 x).wf = true) : inI64 x := by
 simp [Lit.wf, IntKind.min, IntKind.max, IntKind.signed, IntKind.bits] at h
 unfold inI64; omega
theorem open_val {n : Nat} {x0 x1 x2 : V} (h : Fit Tryz.prog n 43 [x0, x1, x2]) : ∃ v : Val, [x0, x1, x2] = encVal v ∧ v.s.size ≤ reachBytes ∧ inI64 v.n := by
 obtain ⟨_, m, _, hf⟩ := h.st Tryz.underlying43
 have h0 : Fit Tryz.prog m 3 (([x0, x1, x2].drop 0).take (Tryz.prog.cellsOf 3)) := hf 0 _ rfl
 have h1 : Fit Tryz.prog m 2 (([x0, x1, x2].drop 1).take (Tryz.prog.cellsOf 2)) := hf 1 _ rfl
 have h2 : Fit Tryz.prog m 9 (([x0, x1, x2].drop 2).take (Tryz.prog.cellsOf 9)) := hf 2 _ rfl
 simp only [co3, co2, co9, List.drop_zero, List.take_succ_cons, List.take_zero, List.drop_succ_cons] at h0 h1 h2
 obtain ⟨a, e0, _⟩ := h0.int Tryz.underlying3
 obtain ⟨b, e1, hb⟩ := h1.int Tryz.underlying2
 obtain ⟨s, e2, hs⟩ := h2.str Tryz.underlying9
 simp only [List.cons.injEq, and_true] at e0 e1 e2
 exact ⟨⟨a, b, s⟩, by rw [e0, e1, e2]; rfl, hs, inI64_of hb⟩
def opdFits (o : Opd) : Prop := o.var.size ≤ reachBytes ∧ o.attr.size ≤ reachBytes ∧ o.v.s.size ≤ reachBytes ∧ inI64 o.v.n
theorem open_opd {n : Nat} {x0 x1 x2 x3 x4 : V} (h : Fit Tryz.prog n 45 [x0, x1, x2, x3, x4]) : ∃ o : Opd, [x0, x1, x2, x3, x4] = encO o ∧ opdFits o := by
 obtain ⟨_, m, _, hf⟩ := h.st Tryz.underlying45
 have h0 : Fit Tryz.prog m 9 (([x0, x1, x2, x3, x4].drop 0).take (Tryz.prog.cellsOf 9)) := hf 0 _ rfl
 have h1 : Fit Tryz.prog m 9 (([x0, x1, x2, x3, x4].drop 1).take (Tryz.prog.cellsOf 9)) := hf 1 _ rfl
 have h2 : Fit Tryz.prog m 43 (([x0, x1, x2, x3, x4].drop 2).take (Tryz.prog.cellsOf 43)) := hf 2 _ rfl
 simp only [co9, co43, List.drop_zero, List.take_succ_cons, List.take_zero, List.drop_succ_cons] at h0 h1 h2
 obtain ⟨s, e0, hs⟩ := h0.str Tryz.underlying9
 obtain ⟨t, e1, ht⟩ := h1.str Tryz.underlying9
 obtain ⟨v, e2, hv⟩ := open_val h2
 simp only [List.cons.injEq, and_true] at e0 e1
 exact ⟨⟨s, t, v⟩, by rw [e0, e1, e2]; rfl, hs, ht, hv⟩
def cndFits (c : Cnd) : Prop := opdFits c.l ∧ opdFits c.r
theorem open_cnd {n : Nat} {us : List V} (hl : us.length = 11) (h : Fit Tryz.prog n 47 us) : ∃ c : Cnd, us = encC c ∧ cndFits c := by
 obtain ⟨_, m, _, hf⟩ := h.st Tryz.underlying47
 have h0 : Fit Tryz.prog m 45 ((us.drop 0).take (Tryz.prog.cellsOf 45)) := hf 0 _ rfl
 have h1 : Fit Tryz.prog m 3 ((us.drop 5).take (Tryz.prog.cellsOf 3)) := hf 1 _ rfl
 have h2 : Fit Tryz.prog m 45 ((us.drop 6).take (Tryz.prog.cellsOf 45)) := hf 2 _ rfl
 obtain ⟨x0, x1, x2, x3, x4, x5, x6, x7, x8, x9, x10, rfl⟩ := len11 hl
 simp only [co45, co3, List.drop_zero, List.take_succ_cons, List.take_zero, List.drop_succ_cons] at h0 h1 h2
 obtain ⟨a, e0, ha⟩ := open_opd h0
 obtain ⟨r, e1, _⟩ := h1.int Tryz.underlying3
 obtain ⟨b, e2, hb⟩ := open_opd h2
 simp only [List.cons.injEq, and_true] at e1
 refine ⟨⟨a, r, b⟩, ?_, ha, hb⟩
 show [x0, x1, x2, x3, x4] ++ [x5] ++ [x6, x7, x8, x9, x10] = encO a ++ [_] ++ encO b
 rw [e0, e1, e2]
theorem okC_of {c : Cnd} (h : cndFits c) : okC c := by
 have hr : reachBytes = 140737488351232 := rfl
 obtain ⟨⟨h1, h2, h3, _⟩, h4, h5, h6, _⟩ := h
 exact ⟨⟨by omega⟩, ⟨by omega⟩⟩
theorem cI_of {c : Cnd} (h : cndFits c) : cI c := ⟨h.1.2.2.2, h.2.2.2.2⟩
theorem open_conds {n : Nat} {x : V} (h : Fit Tryz.prog n 22 [x]) : ∃ l : List Cnd, x = .sl (l.map encC) ∧ (∀ c ∈ l, okC c) ∧ (∀ c ∈ l, cI c) ∧ l.length < 4611686018427387904 ∧ l.length * 136 ≤ reachBytes := by
 have hr : reachBytes = 140737488351232 := rfl
 obtain ⟨es, e4, hes, k, _, hk⟩ := h.sl Tryz.underlying22
 simp only [co47] at hk
 obtain ⟨l, rfl, hl⟩ := rows_of (f := encC) (p := cndFits) fun x hx => open_cnd (hk x hx).1 (hk x hx).2
 simp only [List.cons.injEq, and_true] at e4
 refine ⟨l, e4, fun c hc => okC_of (hl c hc), fun c hc => cI_of (hl c hc), ?_⟩
 rw [List.length_map, by47] at hes; omega
theorem open_nd : ∀ (n : Nat) (us : List V), us.length = 5 → Fit Tryz.prog n 25 us → ∃ nd : Nd, us = encNd nd ∧ nd.ok ∧ nd.inr := by
  intro n
  induction n using Nat.strongRecOn with
  | _ n ih =>
    intro us hl h
    have hr : reachBytes = 140737488351232 := rfl
    obtain ⟨_, m, hm, hf⟩ := h.st Tryz.underlying25
    have h0 : Fit Tryz.prog m 3 ((us.drop 0).take (Tryz.prog.cellsOf 3)) := hf 0 _ rfl
    have h1 : Fit Tryz.prog m 9 ((us.drop 1).take (Tryz.prog.cellsOf 9)) := hf 1 _ rfl
    have h2 : Fit Tryz.prog m 9 ((us.drop 2).take (Tryz.prog.cellsOf 9)) := hf 2 _ rfl
    have h3 : Fit Tryz.prog m 22 ((us.drop 3).take (Tryz.prog.cellsOf 22)) := hf 3 _ rfl
    have h4 : Fit Tryz.prog m 23 ((us.drop 4).take (Tryz.prog.cellsOf 23)) := hf 4 _ rfl
    obtain ⟨x0, x1, x2, x3, x4, rfl⟩ := len5 hl
    simp only [co3, co9, co22, co23, List.drop_zero, List.take_succ_cons, List.take_zero, List.drop_succ_cons] at h0 h1 h2 h3 h4
    obtain ⟨a, e0, _⟩ := h0.int Tryz.underlying3
    obtain ⟨s, e1, hs⟩ := h1.str Tryz.underlying9
    obtain ⟨t, e2, ht⟩ := h2.str Tryz.underlying9
    obtain ⟨cs, e3, hcs, hci, hcl, hcb⟩ := open_conds h3
    obtain ⟨es, e4, hes, k, hkm, hk⟩ := h4.sl Tryz.underlying23
    simp only [co25] at hk
    obtain ⟨l, rfl, hl⟩ := rows_of (f := encNd) (p := fun x => Nd.ok x ∧ Nd.inr x) fun x hx => ih k (by omega) x (hk x hx).1 (hk x hx).2
    simp only [List.cons.injEq, and_true] at e0 e1 e2 e4
    refine ⟨⟨a, s, t, cs, l⟩, by rw [e0, e1, e2, e3, e4, encNd_eq]; rfl, ?_, ?_⟩
    rotate_left
    · rw [Nd.inr_eq]
      refine ⟨hci, fun p hp => ?_⟩
      obtain ⟨x, hx, rfl⟩ := List.mem_map.1 hp
      exact (hl x hx).2
    rw [Nd.ok_eq]
    refine ⟨⟨by show s.size < _; omega, by show t.size < _; omega, hcl, hcs⟩, fun p hp => ?_⟩
    obtain ⟨x, hx, rfl⟩ := List.mem_map.1 hp
    exact (hl x hx).1
theorem open_pat {n : Nat} {us : List V} (hl : us.length = 8) (h : Fit Tryz.prog n 27 us) : ∃ p : Pat, us = encPat p ∧ p.name.size < 4611686018427387904 ∧ p.node.ok ∧ p.node.inr ∧ p.conds.length < 4611686018427387904 ∧ (∀ c ∈ p.conds, okC c) ∧ (∀ c ∈ p.conds, cI c) ∧ inI64 p.within := by
 have hr : reachBytes = 140737488351232 := rfl
 obtain ⟨_, m, _, hf⟩ := h.st Tryz.underlying27
 have h0 : Fit Tryz.prog m 9 ((us.drop 0).take (Tryz.prog.cellsOf 9)) := hf 0 _ rfl
 have h1 : Fit Tryz.prog m 2 ((us.drop 1).take (Tryz.prog.cellsOf 2)) := hf 1 _ rfl
 have h2 : Fit Tryz.prog m 25 ((us.drop 2).take (Tryz.prog.cellsOf 25)) := hf 2 _ rfl
 have h3 : Fit Tryz.prog m 22 ((us.drop 7).take (Tryz.prog.cellsOf 22)) := hf 3 _ rfl
 obtain ⟨x0, x1, x2, x3, x4, x5, x6, x7, rfl⟩ := len8 hl
 simp only [co9, co2, co25, co22, List.drop_zero, List.take_succ_cons, List.take_zero, List.drop_succ_cons] at h0 h1 h2 h3
 obtain ⟨s, e0, hs⟩ := h0.str Tryz.underlying9
 obtain ⟨w, e1, hw⟩ := h1.int Tryz.underlying2
 obtain ⟨nd, e2, hn, hni⟩ := open_nd m _ rfl h2
 obtain ⟨cs, e3, hcs, hci, hcl, hcb⟩ := open_conds h3
 simp only [List.cons.injEq, and_true] at e0 e1
 refine ⟨⟨s, w, nd, cs⟩, ?_, by show s.size < _; omega, hn, hni, hcl, hcs, hci, inI64_of hw⟩
 show [x0, x1] ++ [x2, x3, x4, x5, x6] ++ [x7] = _
 rw [e0, e1, e2, e3, encNd_eq]; rfl
def plainTs : List TypeId := [25, 23, 22, 47, 45, 43, 27, 41, 30, 48, 31, 33, 9, 3, 2]
theorem plain_ok : plainB Tryz.prog plainTs = true := by kernel_rfl
theorem plain_free : plainTs.all (freeB Tryz.prog 8) = true := by kernel_rfl
theorem okWide_agg {P : Program} {W : World} {r : Reach} {base : Nat} {t : TypeId} {fs : Array Field} {v : Value} (hu : P.underlying t = some (.struct fs)) (h : Value.okWide P W r base t v) : ∃ cs, v = .agg cs ∧ cs.size = P.cellsOf t := by
 simp only [Value.okWide, hu] at h
 obtain ⟨cs, h1, h2, _⟩ := h
 exact ⟨cs, h1, h2⟩
def offT (W : World) (g : Nat) : Prop := g < W.heap.size ∧ g ≠ 0
section
variable {H : Type} {enc : TypeId × Value → H} {W : World} {base : Nat} {v : Value} {d : DataW H} {ps : List MemPlace} {us : List Value} {T p q : Nat}
theorem arg_pat (h0 : W.heap[0]? = some (.cells ⟨us⟩ T (p, q))) (hu : ∀ c ∈ us, ∃ z, c = .int .u64 z) (hval : Value.okWide Tryz.prog W .any base 27 v)
  (h : DataW.Trod enc Tryz.prog W 0 (fun _ => true) true 27 v d ps) (hw : ∀ n ∈ d.weights Tryz.prog 27, n ≤ reachBytes) : ∃ p : Pat, VR W (cxJ W (offT W)) (.agg (encPat p)) v ∧ VRs W (cxJ W (offT W)) (encPat p) v.cells.toList ∧ p.name.size < 4611686018427387904 ∧ p.node.ok ∧ p.node.inr ∧ p.conds.length < 4611686018427387904 ∧ (∀ c ∈ p.conds, okC c) ∧ (∀ c ∈ p.conds, cI c) ∧ inI64 p.within := by
 obtain ⟨n, us, h1, h2⟩ := open_argJ (J := offT W) (P := Tryz.prog) (t := 27) plainTs plain_ok (by decide) (apart_free 8 plain_free h0 hu) h hw
 obtain ⟨cs, rfl, hcs⟩ := okWide_agg Tryz.underlying27 hval
 have hl : us.length = 8 := by rw [h1.1]; simpa [Value.cells, co27] using hcs
 obtain ⟨p, rfl, hok⟩ := open_pat hl h2
 exact ⟨p, VR.of_row h1, h1, hok⟩
end
theorem _root_.Go.Abs.ACalls.belowT {tq : Nat × Nat × Nat} {f : FuncId} {args : List V} {R : V → Prop} (h : ACalls Tryz.prog f args (tabH tq) (fun v σ' => σ' = tabH tq ∧ R v)) {W : World} {xs : List Value}
  (h0 : W.heap[0]? = some (.cells ⟨Lib.pow10Tab.map fun z => Value.int .u64 z⟩ tq.1 (tq.2.1, tq.2.2))) (ha : VAs W (cxJ W (offT W)) args xs) :
  Calls Tryz.prog f ⟨xs⟩ W (fun e w' => ∃ v r cx', e = .returned r ∧ VR w' cx' v r ∧ R v ∧ RowKit.Below W.heap.size W w') := by
 have own0 : ∀ {cx : Cx} {g : Nat}, (tabH tq).own cx g → g = 0 := fun {cx g} ho => by
  rcases ho with ⟨c, hc⟩ | ⟨k, x, hk, _⟩
  ·by_cases e : g = 0
   ·exact e
   ·simp [tabH, e, Hp.empty] at hc
  ·simp [tabH, Hp.empty] at hk
 have hH : HR (cxJ W (offT W)) (tabH tq) W := {
  obj := fun g c hc => by
   obtain rfl := own0 (cx := cxJ W (offT W)) (.inl ⟨c, hc⟩)
   simp [tabH] at hc
   subst hc
   exact ⟨_, h0, .told _ _ _ _⟩
  gr := fun k T es hk => by simp [tabH, Hp.empty] at hk
  two := fun k k' x x' g hk => by simp [tabH, Hp.empty] at hk
  mix := fun k x g c hk => by simp [tabH, Hp.empty] at hk
  apart := fun g hg hi => hi.2 (own0 hg)
  ilt := fun g hi => hi.1 }
 refine (h.2 (cxJ W (offT W)) W xs hH ha).mono fun e w' ⟨v, r, cx', σ', h1, h2, h3, h4, h5⟩ => ⟨v, r, cx', h1, h2, h5, ⟨h3.ext.os, h3.ext.tape, h3.ext.output.1, h3.ext.size, fun k hk => ?_⟩⟩
 by_cases e : k = 0
 ·subst e
  subst h4
  rw [tab_at (tq := tq) h3.heap (by simp [tabH]), h0]
 ·exact h3.ext.block k hk fun ho => e (own0 ho)
theorem bulk_le {H : Type} : ∀ {d : DataW H} {l : List (DataW H)}, d ∈ l → uptoBulk d ≤ uptoBulkAll l
  | d, x :: l, h => by
    simp only [uptoBulkAll]
    rcases List.mem_cons.1 h with rfl | h
    · omega
    · have := bulk_le h; omega
theorem bulk_one {H : Type} (d : DataW H) : 1 ≤ uptoBulk d := by
 cases d with
 | lit l => cases l <;> simp [uptoBulk]
 | nil => simp [uptoBulk]
 | ptr d => simp [uptoBulk]
 | slice elems spare => simp [uptoBulk]
 | agg parts => simp [uptoBulk]
 | iface t d => simp [uptoBulk]
 | map entries => simp [uptoBulk]
 | held h => simp [uptoBulk]
theorem bulk_sum {H : Type} {n : Nat} (D : Nat → DataW H) : ∀ (l : List Nat) (o : Nat), (∀ i x, l[i]? = some x → x ≤ uptoBulk (D (o + i))) → l.sum ≤ uptoBulkAll ((List.range l.length).map fun i => D (o + i))
  | [], o, _ => by simp [uptoBulkAll]
  | x :: l, o, h => by
    have h0 := h 0 x rfl
    have h1 := bulk_sum (n := n) D l (o + 1) fun i y hy => by
      have := h (i + 1) y (by simpa using hy)
      rwa [show o + (i + 1) = o + 1 + i by omega] at this
    rw [List.length_cons, List.range_succ_eq_map, List.map_cons, List.sum_cons]
    simp only [uptoBulkAll, Nat.add_zero, List.map_map] at h0 ⊢
    have e : (List.range l.length).map ((fun i => D (o + i)) ∘ Nat.succ) = (List.range l.length).map fun i => D (o + 1 + i) := List.map_congr_left fun i _ => by
      show D (o + (i + 1)) = _
      rw [show o + (i + 1) = o + 1 + i by omega]
    rw [e]; omega
theorem nd_bulk {H : Type} {enc : TypeId × Value → H} {W : World} {cx : Cx} : ∀ (nd : Nd) (fuel : Nat) (cs : List Value) (d : DataW H) (ps : List MemPlace),
    DataW.trod enc Tryz.prog W 0 (fun _ => true) true fuel 25 cs = some (d, ps) → VRs W cx (encNd nd) cs → nd.size ≤ uptoBulk d := Nd.ind fun nd ih fuel cs d ps h hv => by
  obtain ⟨xs, n, _, hx, hcl, hxl, hfs⟩ := DataW.trod_struct Tryz.underlying25 h
  simp only [Prod.mk.injEq] at hx
  obtain ⟨rfl, -⟩ := hx
  have h4 := hfs 4 _ rfl
  rw [List.getElem?_eq_getElem (by rw [hxl]; decide)] at h4
  generalize hy : xs[4]'(by rw [hxl]; decide) = y at h4
  have hym : y.1 ∈ xs.map (·.1) := List.mem_map.2 ⟨y, by rw [← hy]; exact List.getElem_mem _, rfl⟩
  obtain ⟨yd, yp⟩ := y
  have hb := bulk_le hym
  have hd : uptoBulk (DataW.agg (xs.map (·.1))) = uptoBulkAll (xs.map (·.1)) + 1 := by simp [uptoBulk]
  rw [co25] at hcl
  have hcv : ∃ c, (cs.drop 4).take 1 = [c] ∧ cs[4]? = some c := by
    match cs, hcl with
    | [a, b, c, d, e], _ => exact ⟨e, rfl, rfl⟩
  obtain ⟨c, hc1, hc2⟩ := hcv
  have h4 : DataW.trod enc Tryz.prog W 0 (fun _ => true) true n 23 ((cs.drop 4).take 1) = some (yd, yp) := h4
  rw [hc1] at h4
  have hk : VR W cx (.sl (nd.kids.map encNd)) c := hv.2.2 4 _ c (by rw [encNd_eq]; rfl) hc2
  rw [Nd.size_eq, hd]
  suffices hs : (nd.kids.map Nd.size).sum + 1 ≤ uptoBulk yd by
    have : uptoBulk yd ≤ uptoBulkAll (xs.map (·.1)) := hb
    omega
  rcases Go.Deep.open_slice Tryz.underlying23 h4 with ⟨h1, h2⟩ | ⟨a, len, cap, m, n', D, Pl, h1, _, hlc, _, hm, h2, hel⟩
  · injection h1 with h1
    subst h1
    generalize hes : nd.kids.map encNd = es at hk
    cases hk with
    | nils =>
      have : nd.kids = [] := List.map_eq_nil_iff.1 hes
      rw [this]
      exact bulk_one yd
  · injection h1 with h1
    subst h1
    have hm : m = cap := by simpa using hm
    have hyd : yd = .slice ((List.range len).map D) ((List.range (m - len)).map fun j => D (len + j)) := congrArg Prod.fst h2
    rw [hyd]
    simp only [uptoBulk]
    suffices hs : (nd.kids.map Nd.size).sum ≤ uptoBulkAll ((List.range len).map D) by omega
    generalize hes : nd.kids.map encNd = es at hk
    have hkl : nd.kids.length = es.length := by rw [← hes, List.length_map]
    cases hk with
    | nile =>
      have : nd.kids = [] := List.map_eq_nil_iff.1 hes
      rw [this]; simp
    | sl f hI hcap hlen hc hr h1 =>
      have hsum := bulk_sum (n := 0) D (nd.kids.map Nd.size) 0 fun i x hx => ?_
      · rw [List.length_map, hkl] at hsum
        simpa using hsum
      · rw [List.getElem?_map, Option.map_eq_some_iff] at hx
        obtain ⟨k, hki, rfl⟩ := hx
        have hkm := List.mem_of_getElem? hki
        have hil : i < es.length := by rw [← hkl]; exact (List.getElem?_eq_some_iff.1 hki).1
        have hei : es[i]? = some (encNd k) := by rw [← hes, List.getElem?_map, hki]; rfl
        obtain ⟨cs', hc1', hc2'⟩ := hel i (by omega)
        rw [co25] at hc1'
        obtain ⟨_, hcl', hce'⟩ := World.cells?_some hc1'
        rw [Nat.zero_add]
        have hsz := hlen i _ hei
        rw [encNd_len] at hsz
        subst hsz
        have hcell : ∀ j, j < 5 → cs'[j]? = some (f i j) := fun j hj => by
          have h5 := hce' j hj
          rw [Addr.add_lit, Addr.add_lit] at h5
          rw [← h5]; exact hc i j hil hj
        refine ih k hkm n' cs' _ _ hc2' ⟨by rw [encNd_len, hcl'], fun x hx => ?_, fun j v x hv hx => ?_⟩
        · obtain ⟨j, hj⟩ := List.getElem?_of_mem hx
          have hj5 : j < 5 := by rw [← hcl']; exact (List.getElem?_eq_some_iff.1 hj).1
          rw [hcell j hj5] at hj
          injection hj with hj
          rw [← hj]; exact h1 i j hil hj5
        · have hj5 : j < 5 := by rw [← hcl']; exact (List.getElem?_eq_some_iff.1 hx).1
          rw [hcell j hj5] at hx
          injection hx with hx
          rw [← hx]; exact hr i _ j v hei hv
theorem trod_mono {H : Type} {x : DataW H} {l : List (DataW H)} (h : x ∈ l) : uptoBulk x + 1 ≤ uptoBulk (DataW.agg l) := by
 have := bulk_le h
 simp only [uptoBulk]; omega
theorem pat_bulk {H : Type} {enc : TypeId × Value → H} {W : World} {cx : Cx} {v : Value} {d : DataW H} {ps : List MemPlace} {p : Pat} (h : DataW.Trod enc Tryz.prog W 0 (fun _ => true) true 27 v d ps) (hv : VRs W cx (encPat p) v.cells.toList) : p.node.size ≤ uptoBulk d := by
 obtain ⟨fuel, h⟩ := h
 generalize v.cells.toList = cs at h hv
 obtain ⟨xs, n, _, hx, hcl, hxl, hfs⟩ := DataW.trod_struct Tryz.underlying27 h
 simp only [Prod.mk.injEq] at hx
 obtain ⟨rfl, -⟩ := hx
 have h4 := hfs 2 _ rfl
 rw [List.getElem?_eq_getElem (by rw [hxl]; decide)] at h4
 generalize hy : xs[2]'(by rw [hxl]; decide) = y at h4
 have hym : y.1 ∈ xs.map (·.1) := List.mem_map.2 ⟨y, by rw [← hy]; exact List.getElem_mem _, rfl⟩
 obtain ⟨yd, yp⟩ := y
 have hb := trod_mono hym
 have h4 : DataW.trod enc Tryz.prog W 0 (fun _ => true) true n 25 ((cs.drop 2).take (Tryz.prog.cellsOf 25)) = some (yd, yp) := h4
 rw [co25] at h4
 have hn : VRs W cx (encNd p.node) ((cs.drop 2).take 5) := by
  rw [co27] at hcl
  refine ⟨by rw [encNd_len]; simp [hcl], fun x hx => hv.2.1 x (List.mem_of_mem_drop (List.mem_of_mem_take hx)), fun j u x hu hx => ?_⟩
  have hj : j < 5 := by rw [← encNd_len p.node]; exact (List.getElem?_eq_some_iff.1 hu).1
  rw [List.getElem?_take, if_pos hj, List.getElem?_drop] at hx
  refine hv.2.2 (2 + j) u x ?_ hx
  have e : encPat p = [.c (.string p.name), .c (.int .i64 p.within)] ++ (encNd p.node ++ [.sl (p.conds.map encC)]) := by rw [encNd_eq]; rfl
  rw [e, List.getElem?_append_right (by simp), show 2 + j - [V.c (.string p.name), .c (.int .i64 p.within)].length = j by simp, List.getElem?_append_left (by rw [encNd_len]; exact hj)]
  exact hu
 have := nd_bulk p.node n _ yd yp h4 hn
 have hb : uptoBulk yd + 1 ≤ uptoBulk (DataW.agg (xs.map (·.1))) := hb
 show p.node.size ≤ uptoBulk (DataW.agg (xs.map (·.1)))
 omega
end Go.Abs.M
namespace Go.Abs.M
open Go Go.Abs Go.Proofs
open Go.Proofs.YtkijhgplmikboaaGreatDoor
set_option maxRecDepth 100000
theorem gTabT : (Tryz.prog.globals[0]?).map (·.type) = some 250 := by kernel_rfl
theorem co250 : Tryz.prog.cellsOf 250 = 20 := by kernel_rfl
theorem co219 : Tryz.prog.cellsOf 219 = 1 := by kernel_rfl
def dataVals : DataW Unit → Array Value
  | .agg ds => ⟨ds.map fun d => match d with
    | .lit (.int k n) => .int k n
    | _ => undef⟩
  | _ => #[]
def lay (vs : Array Value) : Obj → Obj
  | .cells _ t frozen => .cells vs t frozen
  | o => o
theorem tabs_third {W : World} {x y : String × DataW Unit} {e : TypeId} {n : Nat} {t : TypeId} (hty : (Tryz.prog.globals[0]?).map (·.type) = some t) (ht : Tryz.prog.underlying t = some (.array n e)) (he : Tryz.prog.underlying e = some (.int .u64)) (hce : Tryz.prog.cellsOf e = 1) (hct : Tryz.prog.cellsOf t = n)
  (h : laidMet Tryz.prog [x, y, ("internal/strconv.uint64pow10", Lib.tabData .u64 Lib.pow10Tab)] W) : ∃ T p q, W.heap[0]? = some (.cells ⟨Lib.pow10Tab.map fun z => Value.int .u64 z⟩ T (p, q)) := by
 obtain ⟨ps, ⟨_, _, _, _, _, _, _, _, _, _, ⟨_, _, _, _, _, _, _, _, _, _, ⟨g', t', cs, fuel, p, q, hg', ht', hvar, hd, _, _⟩, _⟩, _⟩, _⟩ := h
 obtain rfl := Option.some.inj (gTab.symm.trans hg')
 obtain rfl := Option.some.inj (hty.symm.trans ht')
 have hcs := Lib.cells_of_tab ht he hce hct hd
 unfold World.var? at hvar
 rw [gTab] at hvar
 simp only [Option.bind_some] at hvar
 split at hvar
 ·rename_i c T fr hh
  injection hvar with hvar
  refine ⟨T, fr.1, fr.2, ?_⟩
  rw [hh, hvar, arr1 hcs]
 ·cases hvar
theorem table_of {W : World} (h : laidMetH Tryz.prog [("math/bits.deBruijn32tab", Rows.laid_math_bits_deBruijn32tab), ("math/bits.deBruijn64tab", Rows.laid_math_bits_deBruijn64tab), ("internal/strconv.uint64pow10", Rows.laid_internal_strconv_uint64pow10)] W) :
  ∃ T p q, W.heap[0]? = some (.cells ⟨Lib.pow10Tab.map fun z => Value.int .u64 z⟩ T (p, q)) :=
 tabs_third gTabT Tryz.underlying250 Tryz.underlying219 co219 co250 h
theorem pow_u64 : ∀ c ∈ Lib.pow10Tab.map fun z => Value.int .u64 z, ∃ z, c = .int .u64 z := fun c hc => by
 obtain ⟨z, _, rfl⟩ := List.mem_map.1 hc
 exact ⟨z, rfl⟩
end Go.Abs.M
