import Derived.Test.YtkijhgplmikboaaGreatDoorSmc
import Derived.Deep.Slices
import Derived.Test.YtkijhgplmikboaaGreatDoorRows
import Derived.Deep.DeepHandedRow
import Derived.Lib.LaidTab
set_option linter.all false
set_option maxHeartbeats 4000000
namespace Go.Abs.M
open Go Go.Abs Go.Proofs
set_option maxRecDepth 20000
def kindsC : List V := [.c (.int .i64 0), .c (.int .i64 1), .c (.int .i64 2), .c (.int .i64 3), .c (.int .i64 4)]
def makesF (p : Pat) (g g4 : Nat) : V := .fn (.func 35) [] [capZ kindsC, capZ (encPat p), ptrV g4, capZ [ptrV g]]
def FromH (τ : Hp) (l : List Int) (u : V) (τ' : Hp) : Prop := (u = .c (.slice none 0 0) ∧ l = [] ∧ τ' = τ) ∨ ∃ k, u = .gl k ∧ l ≠ [] ∧ τ.gr k = none ∧ τ' = τ.setGr k (some ((3, 1), l.map encI))
theorem join_new {σ τ : Hp} (ha : Hp.Apart σ τ) {k : Nat} {x : (TypeId × Nat) × List (List V)} (hk : (σ.join τ).gr k = none) : (σ.join τ).setGr k (some x) = σ.join (τ.setGr k (some x)) ∧ Hp.Apart σ (τ.setGr k (some x)) ∧ τ.gr k = none := by
 have h1 : σ.gr k = none ∧ τ.gr k = none := by
  simp only [Hp.join] at hk
  cases h : σ.gr k with
  | none => rw [h] at hk; exact ⟨rfl, hk⟩
  | some y => rw [h] at hk; cases hk
 refine ⟨Hp.eqs (fun j => rfl) (fun j => ?_), ⟨ha.obj, fun j => ?_⟩, h1.2⟩
 ·by_cases e : j = k
  ·subst e; simp [Hp.join, Hp.setGr, h1.1]
  ·simp [Hp.join, Hp.setGr, e]
 ·by_cases e : j = k
  ·subst e; exact .inl h1.1
  ·simpa [Hp.setGr, e] using ha.gr j
theorem join_del {σ τ : Hp} {k : Nat} {x : (TypeId × Nat) × List (List V)} (ha : Hp.Apart σ (τ.setGr k (some x))) (hk : τ.gr k = none) : (σ.join (τ.setGr k (some x))).setGr k none = σ.join τ ∧ Hp.Apart σ τ := by
 have h1 : σ.gr k = none := by
  rcases ha.gr k with h | h
  ·exact h
  ·simp [Hp.setGr] at h
 refine ⟨Hp.eqs (fun j => rfl) (fun j => ?_), ⟨ha.obj, fun j => ?_⟩⟩
 ·by_cases e : j = k
  ·subst e; simp [Hp.join, Hp.setGr, h1, hk]
  ·simp [Hp.join, Hp.setGr, e]
 ·by_cases e : j = k
  ·subst e; exact .inl h1
  ·simpa [Hp.setGr, e] using ha.gr j
theorem FromH.obj {τ τ' : Hp} {l : List Int} {u : V} (h : FromH τ l u τ') (g : Nat) : τ'.obj g = τ.obj g := by
 rcases h with ⟨_, _, rfl⟩ | ⟨k, _, _, _, rfl⟩ <;> rfl
theorem kids_left (given : List Cnd) (l : List Nd) (i : Nat) (x : Nd) (h : l[i]? = some x) : ((given.filter fun c => (l.take i).all fun k => !readyC k.vars c).filter fun c => !readyC x.vars c) = given.filter fun c => (l.take (i + 1)).all fun k => !readyC k.vars c := by
 rw [List.filter_filter, List.take_add_one, h]
 congr 1
 funext c
 simp [List.all_append, Bool.and_comm]
theorem kidsR_step {put : Pln → OpS → List Int → Pln × Nat} {w : Int} (given : List Cnd) {l : List Nd} {i : Nat} {x : Nd} (h : l[i]? = some x) (r : Pln × List Int) :
  kidsR given (((l.drop i).map (Nd.mkR put w)).zip (l.drop i)) r = kidsR given (((l.drop (i + 1)).map (Nd.mkR put w)).zip (l.drop (i + 1))) ((x.mkR put w r.1 (given.filter (readyC x.vars))).1, r.2 ++ [((x.mkR put w r.1 (given.filter (readyC x.vars))).2 : Int)]) := by
 rw [List.drop_eq_getElem_cons (List.getElem?_eq_some_iff.1 h).1, (List.getElem?_eq_some_iff.1 h).2]; rfl
theorem sum_takeN {l : List Nd} {i : Nat} {x : Nd} (h : l[i]? = some x) : ((l.take (i + 1)).map Nd.size).sum = ((l.take i).map Nd.size).sum + x.size ∧ ((l.take (i + 1)).map Nd.size).sum ≤ (l.map Nd.size).sum := by
 have h1 : ((l.take (i + 1)).map Nd.size).sum = ((l.take i).map Nd.size).sum + x.size := by rw [List.take_add_one, h]; simp
 have h2 : (l.map Nd.size).sum = ((l.take (i + 1)).map Nd.size).sum + ((l.drop (i + 1)).map Nd.size).sum := by rw [← List.sum_append, ← List.map_append, List.take_append_drop]
 exact ⟨h1, by omega⟩
theorem okF78 : okT Tryz.prog 78 = true := by kernel_rfl
theorem szF78 : szT Tryz.prog 78 = 1 := by kernel_rfl
theorem agF78 : aggT Tryz.prog 78 = false := by kernel_rfl
theorem len_i1 (n : Int) : (∀ (e : List V), e ∈ [[V.c (.int .i64 n)]] → e.length = 1) = True := eq_true fun e he => by rw [List.mem_singleton.1 he]; rfl
theorem kinds_at {k : Int} (h1 : 1 ≤ k) (h4 : k ≤ 4) : 0 ≤ k ∧ k < ((5 : Nat) : Int) ∧ k.toNat + 1 ≤ kindsC.length ∧ kindsC.getD k.toNat .junk = .c (.int .i64 (kindOf k)) := by
 have : k = 1 ∨ k = 2 ∨ k = 3 ∨ k = 4 := by omega
 rcases this with rfl | rfl | rfl | rfl <;> exact ⟨by decide, by decide, by decide, rfl⟩
theorem makes_spec {tq : Nat × Nat × Nat} {g gm g4 : Nat} {p : Pat} (n1 : ¬ 0 = g) (n2 : ¬ 0 = gm) (hgn : ¬ g = gm) (hw64 : inI64 p.within) : ∀ n : Nd, n.small → n.err = 0 → n.inr →
  ∀ (x : Pln) (given : List Cnd) (σ τ : Hp), MkH tq g gm x σ → Hp.Apart σ τ → τ.obj g4 = some [makesF p g g4] → x.from_.length = x.ops.length → x.ops.length + n.size < 1048576 → given.length ≤ 16 → (∀ c ∈ given, keyC c) →
  ACalls Tryz.prog 35 [.agg (encNd n), .sl (given.map encC), capZ kindsC, capZ (encPat p), ptrV g4, capZ [ptrV g]] (σ.join τ) (fun v σ' => v = .c (.int .i64 ((n.mkR putM p.within x given).2 : Nat)) ∧ ∃ σ1, MkH tq g gm (n.mkR putM p.within x given).1 σ1 ∧ Hp.Apart σ1 τ ∧ σ' = σ1.join τ) := Nd.ind fun n ih hn he hi x given σ τ hM ha hg4 hx hl hgl hgk => by
 have hlen := hn.len
 obtain ⟨k1, k2, k3, k4, k5⟩ := Nd.own_key he hi
 have hkb : 1 ≤ n.kind ∧ n.kind ≤ 4 := by rcases k5 with ⟨h, _⟩ | ⟨h, _⟩ <;> omega
 obtain ⟨q1, q2, q3, q4⟩ := kinds_at hkb.1 hkb.2
 have hE := (encNd_eq n).symm
 rw [encNd_eq]
 refine ACalls.intro Tryz.call35 Tryz.func35 rfl Tryz.ntmps35 Tryz.results35 (by simp) ?_
 all_goals refine AW.sr trivial ?_
 have hmx : (if (1 : Int) < (n.kids.length : Nat) then ((n.kids.length : Nat) : Int) else 1) = max 1 ((n.kids.length : Nat) : Int) := by split <;> omega
 refine AW.seq_j (fun s' σ' => σ' = σ.join τ ∧ s'.t 1 = .sl (given.map encC) ∧ s'.t 4 = ptrV g4 ∧ s'.t 5 = capZ [ptrV g] ∧ s'.t 6 = .lp 6 0 ∧ s'.l 6 = some [.c (.int .i64 n.kind), .c (.string n.var), .c (.string n.type), .sl (n.tests.map encC), .sl (n.kids.map encNd)] ∧ s'.t 9 = .lp 9 0 ∧ s'.l 9 = some [.c (.int .i64 (kindOf n.kind)), .c (.string n.var), .c (.string n.type), .sl (n.tests.map encC), .c (.slice none 0 0), .c (.int .i64 p.within), .c (.int .i64 (max 1 (n.kids.length : Nat)))]) ?_ ?_
 ·skip
  refine AW.dT { sd := fun d => d == 6 } (.st 0 0 (.st 4 0 (.st 6 0 (.st 8 0 (.st 10 0 (.st 12 0 (.st 1 1 (.st 2 0 (.st 3 1 (.st 5 1 (.st 7 1 (.st 9 1 (.st 11 1 (.st 13 1 (.st 14 0 (.fork 15 (.st 16 0 (.st 17 2 (.st 18 2 .nil))) 17 (.st 15 2 (.st 16 0 (.st 18 2 .nil))))))))))))))))))) ?_
  all_goals have q1q := J10 @Bool.or_self @kill.eq_1 @kill.eq_2 @capZ.eq_1 @encPat.eq_1 q1 q2 q3 q4 hmx
  all_goals iterate 7 refine T.onf q1q ?_
  all_goals have q2q := J10 @Bool.or_self @kill.eq_1 @kill.eq_2 @capZ.eq_1 @encPat.eq_1 q1 q2 q3 q4 hmx
  all_goals (refine T.g rfl trivial rfl rfl fun Y Z => ?_; simp only [zz, simprocAttr, -Int.reduceNatCast', -Int.reduceToNat, tt, q2q]; (refine ⟨5, 3, rfl, (by rw [sz3]; decide), q2, ?_⟩; simp only [tt, Nat.mul_one, Nat.zero_add]) <;> (refine Z _ _ ?_; clear Z Y))
  all_goals iterate 7 refine T.onf q2q ?_
  all_goals (try refine T.fork ?_ ?_)
  all_goals have q3q := J10 @Bool.or_self @kill.eq_1 @kill.eq_2 @capZ.eq_1 @encPat.eq_1 q1 q2 q3 q4 hmx
  all_goals first | (refine T.g rfl trivial rfl rfl fun Y Z => ?_; simp only [zz, simprocAttr, -Int.reduceNatCast', -Int.reduceToNat, q3q]; refine Z _ _ ?_; clear Z Y) | (refine T.g rfl trivial rfl rfl fun Y Z => ?_; simp only [zz, simprocAttr, -Int.reduceNatCast', -Int.reduceToNat, tt, q3q]; refine Z _ _ ?_; clear Z Y)
  all_goals have q4q := J10 @Bool.or_self @kill.eq_1 @kill.eq_2 @capZ.eq_1 @encPat.eq_1 q1 q2 q3 q4 hmx
  all_goals first | (refine T.g rfl trivial rfl rfl fun Y Z => ?_; simp only [zz, simprocAttr, -Int.reduceNatCast', -Int.reduceToNat, tt, q4q]; refine Z _ _ ?_; clear Z Y) | (refine T.g rfl trivial rfl rfl fun Y Z => ?_; simp only [zz, simprocAttr, -Int.reduceNatCast', -Int.reduceToNat, q4q]; refine Z _ _ ?_; clear Z Y)
  all_goals have q5q := J10 @Bool.or_self @kill.eq_1 @kill.eq_2 @capZ.eq_1 @encPat.eq_1 q1 q2 q3 q4 hmx
  all_goals first | (refine T.g rfl trivial rfl rfl fun Y Z => ?_; simp only [zz, simprocAttr, -Int.reduceNatCast', -Int.reduceToNat, tt, q5q]; refine Z _ _ ?_; clear Z Y) | (refine T.g rfl trivial rfl rfl fun Y Z => ?_; simp only [zz, simprocAttr, -Int.reduceNatCast', -Int.reduceToNat, tt, q5q]; refine Z _ _ ?_; clear Z Y)
  all_goals refine T.onf q5q ?_
  all_goals refine T.nil ?_
  all_goals simp only [ze, simprocAttr, q5q]
  all_goals ((try and_intros) <;> first | rfl | assumption | (rfl))
 rintro s σ0 ⟨rfl, e1, e4, e5, e6, l6, e9, l9⟩
 all_goals refine AW.sr e1 ?_
 all_goals refine AW.sr trivial ?_
 refine AW.seq_k fun K4 h4 => ?_
 all_goals refine AW.sr (J2 e6 l6) ?_
 refine AW.block ?_   -- 0
 refine AW.loop (fun m s σ' => ∃ (i : Nat) (xi : Pln) (li : List Int) (σi τi : Hp), m + i = n.kids.length ∧ σ' = σi.join τi ∧ MkH tq g gm xi σi ∧ FromH τ li (s.t 11) τi ∧ Hp.Apart σi τi ∧
  kidsR given ((n.kids.map (Nd.mkR putM p.within)).zip n.kids) (x, []) = kidsR given (((n.kids.drop i).map (Nd.mkR putM p.within)).zip (n.kids.drop i)) (xi, li) ∧ li.length = i ∧ (∀ z ∈ li, inI64 z) ∧ xi.from_.length = xi.ops.length ∧ xi.ops.length ≤ x.ops.length + ((n.kids.take i).map Nd.size).sum ∧
  s.t 1 = .sl (given.map encC) ∧ s.t 4 = ptrV g4 ∧ s.t 5 = capZ [ptrV g] ∧ s.t 9 = .lp 9 0 ∧ s.l 9 = some [.c (.int .i64 (kindOf n.kind)), .c (.string n.var), .c (.string n.type), .sl (n.tests.map encC), .c (.slice none 0 0), .c (.int .i64 p.within), .c (.int .i64 (max 1 (n.kids.length : Nat)))] ∧
  s.t 10 = .sl ((given.filter fun c => (n.kids.take i).all fun k => !readyC k.vars c).map encC) ∧ s.t 35 = .sl (n.kids.map encNd) ∧ s.t 36 = .c (.int .i64 (n.kids.length : Nat)) ∧ s.t 37 = .c (.int .i64 (i : Nat))) n.kids.length ?_ ?_
 ·refine ⟨0, x, [], σ, τ, by simp, rfl, hM, ?_⟩
  simp only [zs, simprocAttr, e1, e4, e5, e9, l9]
  refine ⟨.inl ⟨rfl, rfl, rfl⟩, ha, rfl, (fun z h => by cases h), hx, by simp, ?_⟩
  all_goals ((try and_intros) <;> first | rfl | assumption | ((simp [List.filter_eq_self.2])))
 clear e1 e4 e5 e6 l6 e9 l9 s
 rintro m s σw ⟨i, xi, li, σi, τi, hm, rfl, hMi, hfr, hai, hkr, hlr, hl64, hxi, hli, e1, e4, e5, e9, l9, e10, e35, e36, e37⟩
 all_goals refine AW.sr (J2 e36 e37) ?_
 refine AW.seq_k fun K7 h7 => ?_
 refine AW.cond (b := decide (i < n.kids.length)) (by simp [ev]) (fun hil => ?_) (fun hil => ?_)
 ·have hil := of_decide_eq_true hil
  obtain ⟨k, hkx, hxm, hgd⟩ := kid_get hil
  have hw := wadd1 (a := i) (by omega)
  have hxs := hn.kid hxm
  have hxe := Nd.err_kid he hxm
  have hvs := k.vars_size
  have hkn : k.size ≤ 1048576 := hxs
  obtain ⟨hs1, hs2⟩ := sum_takeN hkx
  have hns := n.size_eq
  have hg4i : τi.obj g4 = some [makesF p g g4] := (hfr.obj g4).trans hg4
  rw [kidsR_step given hkx] at hkr
  have hkill : kill 13 (s.t 11) = s.t 11 := by rcases hfr with ⟨h, _⟩ | ⟨kf, h, _⟩ <;> rw [h] <;> rfl
  have hpl := mkR_len putM_len (w := p.within) k xi (given.filter (readyC k.vars)) hxi
  refine AW.skip ?_
  all_goals simp only [zs, simprocAttr]
  all_goals apply_assumption
  refine AW.seq_k fun K8 h8 => ?_
  refine AW.block ?_   -- 1
  all_goals refine AW.sr (J6 e35 e37 hil hgd @nd @List.length_map.{0,0}) ?_
  refine AW.seq_k fun K10 h10 => ?_
  all_goals refine AW.reg0 ?_
  all_goals iterate 2 refine S.one (J2 e1 @nd) ?_
  all_goals (refine S.g rfl rfl fun Y Z => ?_; simp only [zz, simprocAttr, -Int.reduceNatCast', -Int.reduceToNat, e1, nd]; refine PCalls.eqto (Vars_spec hxs hxe) ?_ <;> (refine Z _ _ ?_; clear Z Y))
  all_goals (refine S.g rfl rfl fun Y Z => ?_; simp only [zz, simprocAttr, -Int.reduceNatCast', -Int.reduceToNat, e1, nd]; refine PCalls.eqto (Split_spec given k.vars (by omega) (by omega)) ?_ <;> (refine Z _ _ ?_; clear Z Y))
  all_goals iterate 5 refine S.one (J2 e1 @nd) ?_
  all_goals (refine S.nil ?_; simp only [ze, simprocAttr, e1, nd]; apply_assumption)
  refine AW.seq_j (fun s' σ' => σ' = σi.join τi ∧ s'.t 1 = .sl (given.map encC) ∧ s'.t 4 = ptrV g4 ∧ s'.t 5 = capZ [ptrV g] ∧ s'.t 9 = .lp 9 0 ∧ s'.l 9 = some [.c (.int .i64 (kindOf n.kind)), .c (.string n.var), .c (.string n.type), .sl (n.tests.map encC), .c (.slice none 0 0), .c (.int .i64 p.within), .c (.int .i64 (max 1 (n.kids.length : Nat)))] ∧
   s'.t 10 = .sl ((given.filter fun c => (n.kids.take (i + 1)).all fun k => !readyC k.vars c).map encC) ∧ s'.t 11 = s.t 11 ∧ s'.t 13 = .lp 13 0 ∧ s'.l 13 = some (encNd k) ∧ s'.t 14 = .sl ((given.filter (readyC k.vars)).map encC) ∧ s'.t 35 = .sl (n.kids.map encNd) ∧ s'.t 36 = .c (.int .i64 (n.kids.length : Nat)) ∧ s'.t 37 = .c (.int .i64 (i : Nat))) ?_ ?_
  ·rw [← kids_left given n.kids i k hkx]
   refine AW.reg0 ?_
   iterate 2 refine S.one (J11 e1 e4 e5 e9 l9 e10 e35 e36 e37 hkill @nd) ?_
   (refine S.g rfl rfl fun Y Z => ?_; simp only [zz, simprocAttr, -Int.reduceNatCast', -Int.reduceToNat, e1, e4, e5, e9, l9, e10, e35, e36, e37, hkill, nd]; refine PCalls.eqto (Vars_spec hxs hxe) ?_ <;> (refine Z _ _ ?_; clear Z Y))
   all_goals have q6q := J11 e1 e4 e5 e9 l9 e10 e35 e36 e37 hkill @nd
   all_goals (refine S.g rfl rfl fun Y Z => ?_; simp only [zz, simprocAttr, -Int.reduceNatCast', -Int.reduceToNat, q6q]; refine PCalls.eqto (Split_spec (given.filter fun c => (n.kids.take i).all fun k => !readyC k.vars c) k.vars (by have := List.length_filter_le (fun c => (n.kids.take i).all fun k => !readyC k.vars c) given; omega) (by omega)) ?_ <;> (refine Z _ _ ?_; clear Z Y))
   all_goals iterate 4 refine S.one q6q ?_
   all_goals refine S.nil ?_
   all_goals simp only [ze, simprocAttr, q6q]
   all_goals ((try and_intros) <;> first | rfl | assumption | (rfl))
  clear e1 e4 e5 e9 l9 e10 e35 e36 e37
  rintro s2 σ2 ⟨rfl, e1, e4, e5, e9, l9, e10, e11, e13, l13, e14, e35, e36, e37⟩
  have hgr : (σi.join τi).obj g4 = some [makesF p g g4] := hai.objR hg4i
  have hFk : isMap [makesF p g g4] = false := rfl
  have y3 : (1 ≤ maxLen) = True := eq_true (by unfold maxLen; omega)
  have y5 : (8 ≤ reach) = True := eq_true (by unfold reach; omega)
  have hz := len_i1 ((k.mkR putM p.within xi (given.filter (readyC k.vars))).2 : Nat)
  rcases hfr with ⟨hu, hl0, rfl⟩ | ⟨kf, hu, hl0, hkf, rfl⟩
  ·rw [hu] at e11
   subst hl0
   refine AW.reg0 ?_
   iterate 4 refine S.one (J12 e1 e4 e5 e9 l9 e10 e11 e13 l13 e14 e35 (J12 e36 e37 @ptrV.eq_1 hgr @makesF.eq_1 @isMap_fn @okF78 @szF78 @agF78 @capZ.eq_1 @nd (J3 y3 y5 hz))) ?_
   (refine S.g rfl rfl fun Y Z => ?_; simp only [zz, simprocAttr, -Int.reduceNatCast', -Int.reduceToNat, e1, e4, e5, e9, l9, e10, e11, e13, l13, e14, e35, e36, e37, ptrV, hgr, makesF, isMap_fn, okF78, szF78, agF78, capZ, nd, y3, y5, hz]; (refine ACalls.to (ih k hxm hxs hxe (hi.kid hxm) xi (given.filter (readyC k.vars)) σi _ hMi hai hg4i hxi (by omega) (Nat.le_trans (List.length_filter_le ..) hgl) (fun c hc => hgk c (List.mem_filter.1 hc).1)) ?_; rintro v1 σ1 ⟨rfl, σ2, hM2, ha2, rfl⟩; first | have hgr2 := ha2.grR hkf2 | have hgr2 : True := trivial) <;> (refine Z _ _ ?_; clear Z Y))
   all_goals (refine S.g rfl rfl fun Y Z => ?_; simp only [zb, simprocAttr, -Int.reduceNatCast', -Int.reduceToNat, tt, e1, e4, e5, e9, l9, e10, e11, e13, l13, e14, e35, e36, e37, ptrV, hgr, makesF, isMap_fn, okF78, szF78, agF78, capZ, nd, y3, y5, hz]; refine Z _ _ ?_; clear Z Y)
   all_goals (refine S.g rfl rfl fun Y Z => ?_; simp only [zz, simprocAttr, -Int.reduceNatCast', -Int.reduceToNat, tt, e1, e4, e5, e9, l9, e10, e11, e13, l13, e14, e35, e36, e37, ptrV, hgr, makesF, isMap_fn, okF78, szF78, agF78, capZ, nd, y3, y5, hz, hgr2, List.length_append]; intro k1 hk1 <;> (refine Z _ _ ?_; clear Z Y))
   all_goals have q7q := J12 e1 e4 e5 e9 l9 e10 e11 e13 l13 e14 e35 (J12 e36 e37 @ptrV.eq_1 hgr @makesF.eq_1 @isMap_fn @okF78 @szF78 @agF78 @capZ.eq_1 @nd (J3 y3 y5 hz))
   all_goals refine S.one q7q ?_
   all_goals refine S.nil ?_
   all_goals simp only [ze, simprocAttr, q7q]
   obtain ⟨hj1, hj2, hj3⟩ := join_new ha2 (x := ((3, 1), [[V.c (.int .i64 ((k.mkR putM p.within xi (given.filter (readyC k.vars))).2 : Nat))]])) hk1
   rw [hj1]
   all_goals apply_assumption
   all_goals have q8q := J12 e1 e4 e5 e9 l9 e10 e35 e36 e37 @ptrV.eq_1 @capZ.eq_1 hw
   all_goals refine AW.reg0 (S.rn q8q ?_)
   all_goals simp only [ze, simprocAttr, q8q]
   refine ⟨m - 1, by omega, i + 1, (k.mkR putM p.within xi (given.filter (readyC k.vars))).1, [((k.mkR putM p.within xi (given.filter (readyC k.vars))).2 : Int)], σ2, _, by omega, rfl, hM2, .inr ⟨k1, rfl, by simp, hj3, rfl⟩, hj2, hkr, by rw [← hlr]; rfl, (fun z h => by rw [List.mem_singleton.1 h]; unfold inI64; omega), hpl.1, by omega, ?_⟩
   all_goals ((try and_intros) <;> first | rfl | assumption | (rfl))
  ·have hkf2 : (τ.setGr kf (some ((3, 1), li.map encI))).gr kf = some ((3, 1), li.map encI) := by simp
   have y1 : (li.length + 1 ≤ maxLen) = True := eq_true (by unfold maxLen; have := hlr; omega)
   have y2 : ((li.length + 1) * 8 ≤ reach) = True := eq_true (by unfold reach; have := hlr; omega)
   rw [hu] at e11
   refine AW.reg0 ?_
   iterate 4 refine S.one (J12 e1 e4 e5 e9 l9 e10 e11 e13 l13 e14 e35 (J12 e36 e37 @ptrV.eq_1 hgr @makesF.eq_1 @isMap_fn @okF78 @szF78 @agF78 @capZ.eq_1 @nd (J6 y1 y2 y3 y5 hz @List.length_map.{0,0}))) ?_
   (refine S.g rfl rfl fun Y Z => ?_; simp only [zz, simprocAttr, -Int.reduceNatCast', -Int.reduceToNat, e1, e4, e5, e9, l9, e10, e11, e13, l13, e14, e35, e36, e37, ptrV, hgr, makesF, isMap_fn, okF78, szF78, agF78, capZ, nd, y1, y2, y3, y5, hz, List.length_map]; (refine ACalls.to (ih k hxm hxs hxe (hi.kid hxm) xi (given.filter (readyC k.vars)) σi _ hMi hai hg4i hxi (by omega) (Nat.le_trans (List.length_filter_le ..) hgl) (fun c hc => hgk c (List.mem_filter.1 hc).1)) ?_; rintro v1 σ1 ⟨rfl, σ2, hM2, ha2, rfl⟩; first | have hgr2 := ha2.grR hkf2 | have hgr2 : True := trivial) <;> (refine Z _ _ ?_; clear Z Y))
   all_goals (refine S.g rfl rfl fun Y Z => ?_; simp only [zb, simprocAttr, -Int.reduceNatCast', -Int.reduceToNat, tt, e1, e4, e5, e9, l9, e10, e11, e13, l13, e14, e35, e36, e37, ptrV, hgr, makesF, isMap_fn, okF78, szF78, agF78, capZ, nd, y1, y2, y3, y5, hz, List.length_map]; refine Z _ _ ?_; clear Z Y)
   all_goals (refine S.g rfl rfl fun Y Z => ?_; simp only [zz, simprocAttr, -Int.reduceNatCast', -Int.reduceToNat, tt, e1, e4, e5, e9, l9, e10, e11, e13, l13, e14, e35, e36, e37, ptrV, hgr, makesF, isMap_fn, okF78, szF78, agF78, capZ, nd, y1, y2, y3, y5, hz, List.length_map, hgr2, List.length_append]; intro k1 hk1 <;> (refine Z _ _ ?_; clear Z Y))
   all_goals have q9q := J12 e1 e4 e5 e9 l9 e10 e11 e13 l13 e14 e35 (J12 e36 e37 @ptrV.eq_1 hgr @makesF.eq_1 @isMap_fn @okF78 @szF78 @agF78 @capZ.eq_1 @nd (J6 y1 y2 y3 y5 hz @List.length_map.{0,0}))
   all_goals refine S.one q9q ?_
   all_goals refine S.nil ?_
   all_goals simp only [ze, simprocAttr, q9q]
   obtain ⟨hd1, hd2⟩ := join_del ha2 hkf
   have hk1 : (σ2.join τ).gr k1 = none := by rw [← hd1]; simpa [Hp.setGr] using hk1
   rw [hd1]
   obtain ⟨hj1, hj2, hj3⟩ := join_new hd2 (x := ((3, 1), li.map encI ++ [[V.c (.int .i64 ((k.mkR putM p.within xi (given.filter (readyC k.vars))).2 : Nat))]])) hk1
   rw [hj1]
   all_goals apply_assumption
   all_goals have q10q := J12 e1 e4 e5 e9 l9 e10 e35 e36 e37 @ptrV.eq_1 @capZ.eq_1 hw
   all_goals refine AW.reg0 (S.rn q10q ?_)
   all_goals simp only [ze, simprocAttr, q10q]
   refine ⟨m - 1, by omega, i + 1, (k.mkR putM p.within xi (given.filter (readyC k.vars))).1, li ++ [((k.mkR putM p.within xi (given.filter (readyC k.vars))).2 : Int)], σ2, _, by omega, rfl, hM2, .inr ⟨k1, rfl, by simp, hj3, by rw [List.map_append]; rfl⟩, hj2, hkr, by simp [hlr], (fun z h => by
    rcases List.mem_append.1 h with h | h
    ·exact hl64 z h
    ·rw [List.mem_singleton.1 h]; unfold inI64; omega), hpl.1, by omega, ?_⟩
   all_goals ((try and_intros) <;> first | rfl | assumption | (rfl))
 ·have hil := of_decide_eq_false hil
  obtain rfl : i = n.kids.length := by omega
  rw [List.drop_of_length_le (Nat.le_refl _)] at hkr
  rw [List.take_of_length_le (Nat.le_refl _)] at hli e10
  have hkr : kidsR given ((n.kids.map (Nd.mkR putM p.within)).zip n.kids) (x, []) = (xi, li) := hkr
  have hns := n.size_eq
  have hput := Nd.mkR_eq putM p.within n x given
  rw [hkr] at hput
  have hat : Hp.Apart σi τ := by
   rcases hfr with ⟨_, _, rfl⟩ | ⟨kf, _, _, hkf, rfl⟩
   ·exact hai
   ·exact (join_del hai hkf).2
  generalize hfr' : (if n.kids.length = 0 then [(-1 : Int)] else li) = fr at hput
  have hf64 : ∀ z ∈ fr, inI64 z := by
   subst hfr'
   intro z hz
   split at hz
   ·rw [List.mem_singleton.1 hz]; unfold inI64; omega
   ·exact hl64 z hz
  have hfl : fr.length < 1048576 := by
   subst hfr'
   split
   ·decide
   ·omega
  have hkp : keyP (opOf n given p.within) := ⟨by show inI64 (kindOf n.kind); unfold inI64 kindOf; repeat' split <;> omega, by show n.var.size ≤ _; omega, by show n.type.size ≤ _; omega, by show n.tests.length < _; omega,
   by show (given.filter _).length < _; exact Nat.lt_of_le_of_lt (List.length_filter_le ..) (by omega), k4, fun c hc => hgk c (List.mem_filter.1 hc).1⟩
  have hcall := ACalls.beside (put_spec n1 n2 hgn hMi hxi (by omega) (opOf n given p.within) fr hkp hf64 hfl) hat
  rw [← hput] at hcall
  refine AW.exit ?_
  all_goals simp only [zs, simprocAttr]
  all_goals apply_assumption
  refine AW.st (fun s' => s'.t 5 = capZ [ptrV g] ∧ s'.t 9 = .lp 9 0 ∧ s'.l 9 = some [.c (.int .i64 (kindOf n.kind)), .c (.string n.var), .c (.string n.type), .sl (n.tests.map encC), .c (.slice none 0 0), .c (.int .i64 p.within), .c (.int .i64 (max 1 (n.kids.length : Nat)))] ∧ s'.t 10 = .sl ((given.filter fun c => n.kids.all fun k => !readyC k.vars c).map encC) ∧ s'.t 11 = s.t 11) ?_ ?_
  ·simp only [zs, simprocAttr, e5, e9, l9, e10]
   all_goals ((try and_intros) <;> first | rfl | assumption | (rfl))
  clear e1 e4 e5 e9 l9 e10 e35 e36 e37
  rintro s2 ⟨e5, e9, l9, e10, e11⟩
  refine AW.seq_j (fun s' σ' => σ' = σi.join τ ∧ s'.t 5 = capZ [ptrV g] ∧ s'.t 9 = .lp 9 0 ∧ s'.l 9 = some [.c (.int .i64 (kindOf n.kind)), .c (.string n.var), .c (.string n.type), .sl (n.tests.map encC), .c (.slice none 0 0), .c (.int .i64 p.within), .c (.int .i64 (max 1 (n.kids.length : Nat)))] ∧ s'.t 10 = .sl ((given.filter fun c => n.kids.all fun k => !readyC k.vars c).map encC) ∧ s'.t 11 = .sl (fr.map encI)) ?_ ?_
  ·rcases hfr with ⟨hu, hl0, rfl⟩ | ⟨kf, hu, hl0, hkf, rfl⟩ <;> rw [hu] at e11
   ·have h0 : n.kids.length = 0 := by rw [← hlr, hl0]; rfl
    rw [if_pos h0] at hfr'
    subst hfr'
    refine AW.sr (J5 e11 e5 e9 l9 e10) ?_
    refine AW.cond (b := true) (by simp [ev]) (fun _ => ?_) (fun h => by cases h)
    all_goals refine AW.reg0 ?_
    all_goals iterate 2 (refine S.g rfl rfl fun Y Z => ?_; simp only [zb, simprocAttr, -Int.reduceNatCast', -Int.reduceToNat, tt, e11, e5, e9, l9, e10]; refine Z _ _ ?_; clear Z Y)
    all_goals refine S.nil ?_
    all_goals simp only [ze, simprocAttr, e11, e5, e9, l9, e10]
    all_goals ((try and_intros) <;> first | rfl | assumption | (rfl))
   ·obtain ⟨hd1, hd2⟩ := join_del hai hkf
    refine AW.freeze (k := kf) (T := (3, 1)) (es := li.map encI) (hai.grR (by simp)) ?_
    rw [hd1]
    have f5 : (s2.fz kf (li.map encI)).t 5 = capZ [ptrV g] := by simp [e5, fzV, fz1, capZ, ptrV]
    have f9 : (s2.fz kf (li.map encI)).t 9 = .lp 9 0 := by simp [e9, fzV, fz1]
    have f10 : (s2.fz kf (li.map encI)).t 10 = .sl ((given.filter fun c => n.kids.all fun k => !readyC k.vars c).map encC) := by simp [e10, fzV, fz1]
    have f11 : (s2.fz kf (li.map encI)).t 11 = .sl (li.map encI) := by simp [e11, fzV, fz1]
    have m9 : (s2.fz kf (li.map encI)).l 9 = some [.c (.int .i64 (kindOf n.kind)), .c (.string n.var), .c (.string n.type), .sl (n.tests.map encC), .c (.slice none 0 0), .c (.int .i64 p.within), .c (.int .i64 (max 1 (n.kids.length : Nat)))] := by simp [l9, fz1]
    generalize s2.fz kf (li.map encI) = s3 at *
    have h0 : ¬ n.kids.length = 0 := fun h => hl0 (List.eq_nil_of_length_eq_zero (by omega))
    have hli0 : ¬ ((li.length : Int) = 0) := by omega
    rw [if_neg h0] at hfr'
    subst hfr'
    refine AW.sr (J6 f5 f9 m9 f10 f11 @List.length_map.{0,0}) ?_
    refine AW.cond (b := false) (by simp [ev, hl0]) (fun h => by cases h) (fun _ => AW.skip ?_)
    all_goals simp only [zs, simprocAttr, f5, f9, m9, f10, f11]
    all_goals ((try and_intros) <;> first | rfl | assumption | (rfl))
  clear e5 e9 l9 e10 e11
  rintro s3 σ3 ⟨rfl, e5, e9, l9, e10, e11⟩
  simp only [encOp, opOf, ptrV] at hcall
  all_goals refine AW.sr (J5 e5 e9 l9 e10 e11) ?_
  refine AW.seq_k fun K14 h14 => ?_
  all_goals refine AW.reg0 ?_
  all_goals iterate 3 refine S.one (J7 e5 e9 l9 e10 e11 @capZ.eq_1 @ptrV.eq_1) ?_
  all_goals have q11q := J7 e5 e9 l9 e10 e11 @capZ.eq_1 @ptrV.eq_1
  all_goals (refine S.g rfl rfl fun Y Z => ?_; simp only [zz, simprocAttr, -Int.reduceNatCast', -Int.reduceToNat, q11q]; (refine ACalls.to hcall ?_; rintro v1 σ1 ⟨σ2, ⟨rfl, hM2⟩, ha2, rfl⟩) <;> (refine Z _ _ ?_; clear Z Y))
  all_goals refine S.one q11q ?_
  all_goals (refine S.nil ?_; simp only [ze, simprocAttr, q11q]; apply_assumption)
  refine AW.ret ?_
  all_goals simp only [zs, simprocAttr]
  exact ⟨σ2, hM2, ha2, rfl⟩
def nilV : V := .c (.slice none 0 0)
structure Dn (τ : Hp) (kd m : Nat) (A : List V) (R : Nat → List Cnd) (σ : Hp) : Prop where
  len : A.length = m + 1
  obj : ∀ g, σ.obj g = τ.obj g
  kd0 : τ.gr kd = none
  at_ : σ.gr kd = some ((22, 1), (A.take m).map fun v => [v])
  row : ∀ (j : Nat) (v : V), A[j]? = some v → (v = nilV ∧ R j = []) ∨ ∃ k, v = .gl k ∧ k ≠ kd ∧ τ.gr k = none ∧ σ.gr k = some ((47, 11), (R j).map encC)
  inj : ∀ i j k : Nat, A[i]? = some (.gl k) → A[j]? = some (.gl k) → i = j
  old : ∀ k x, τ.gr k = some x → σ.gr k = some x
theorem Dn.put {τ σ σ' : Hp} {kd m : Nat} {A : List V} {R : Nat → List Cnd} (h : Dn τ kd m A R σ) {j k1 : Nat} {v : V} {c : Cnd} (hv : A[j]? = some v) (hob : ∀ g, σ'.obj g = σ.obj g)
  (h1 : σ'.gr k1 = some ((47, 11), (R j ++ [c]).map encC)) (hkd : σ'.gr kd = some ((22, 1), ((A.set j (.gl k1)).take m).map fun v => [v])) (hne : k1 ≠ kd) (hfr : σ.gr k1 = none ∨ v = .gl k1)
  (hrest : ∀ k, k ≠ k1 → k ≠ kd → v ≠ .gl k → σ'.gr k = σ.gr k) : Dn τ kd m (A.set j (.gl k1)) (fun i => if i = j then R i ++ [c] else R i) σ' := by
 have hjl : j < A.length := (List.getElem?_eq_some_iff.1 hv).1
 have hk1 : τ.gr k1 = none := by
  rcases hfr with h2 | h2
  ·cases e : τ.gr k1 with
   | none => rfl
   | some x => rw [h.old k1 x e] at h2; cases h2
  ·subst h2
   rcases h.row j _ hv with ⟨h3, _⟩ | ⟨k, h3, _, h4, _⟩
   ·cases h3
   ·injection h3 with h3; rw [h3]; exact h4
 have far : ∀ i u, i ≠ j → A[i]? = some u → ∀ k, u = .gl k → k ≠ k1 ∧ v ≠ .gl k := fun i u hij hu k hk => by
  subst hk
  refine ⟨fun e => ?_, fun e => ?_⟩
  ·subst e
   rcases hfr with h2 | h2
   ·rcases h.row i _ hu with ⟨h3, _⟩ | ⟨k', h3, _, _, h4⟩
    ·cases h3
    ·injection h3 with h3; rw [← h3, h2] at h4; cases h4
   ·rw [h2] at hv; exact hij (h.inj i j k hu hv)
  ·rw [e] at hv; exact hij (h.inj i j k hu hv)
 refine ⟨by simpa using h.len, fun g => (hob g).trans (h.obj g), h.kd0, hkd, fun i u hu => ?_, fun i i' k hi hi' => ?_, fun k x hx => ?_⟩
 ·by_cases hij : i = j
  ·subst hij
   rw [List.getElem?_set_self hjl] at hu
   injection hu with hu
   exact .inr ⟨k1, hu.symm, hne, hk1, by rw [if_pos rfl]; exact h1⟩
  ·rw [List.getElem?_set_ne (Ne.symm hij)] at hu
   rw [if_neg hij]
   rcases h.row i u hu with h2 | ⟨k, h3, h4, h5, h6⟩
   ·exact .inl h2
   ·obtain ⟨h7, h8⟩ := far i u hij hu k h3
    exact .inr ⟨k, h3, h4, h5, (hrest k h7 h4 h8).trans h6⟩
 ·by_cases hij : i = j
  ·by_cases hij' : i' = j
   ·rw [hij, hij']
   ·subst hij
    rw [List.getElem?_set_self hjl] at hi
    rw [List.getElem?_set_ne (Ne.symm hij')] at hi'
    injection hi with hi; injection hi with hi
    exact absurd hi.symm (far i' _ hij' hi' k rfl).1
  ·by_cases hij' : i' = j
   ·subst hij'
    rw [List.getElem?_set_self hjl] at hi'
    rw [List.getElem?_set_ne (Ne.symm hij)] at hi
    injection hi' with hi'; injection hi' with hi'
    exact absurd hi'.symm (far i _ hij hi k rfl).1
   ·rw [List.getElem?_set_ne (Ne.symm hij)] at hi
    rw [List.getElem?_set_ne (Ne.symm hij')] at hi'
    exact h.inj i i' k hi hi'
 ·have h2 : k ≠ k1 := fun e => by rw [e, hk1] at hx; cases hx
  have h3 : k ≠ kd := fun e => by rw [e, h.kd0] at hx; cases hx
  have h4 : v ≠ .gl k := fun e => by
   rcases h.row j v hv with ⟨h5, _⟩ | ⟨k', h5, _, h6, _⟩
   ·rw [e] at h5; cases h5
   ·rw [e] at h5; injection h5 with h5; rw [← h5, hx] at h6; cases h6
  exact (hrest k h2 h3 h4).trans (h.old k x hx)
theorem Dn.congr {τ σ : Hp} {kd m : Nat} {A : List V} {R R' : Nat → List Cnd} (h : Dn τ kd m A R σ) (hR : ∀ j, j ≤ m → R j = R' j) : Dn τ kd m A R' σ :=
 ⟨h.len, h.obj, h.kd0, h.at_, fun j v hv => by
  have hj : j ≤ m := by have := (List.getElem?_eq_some_iff.1 hv).1; rw [h.len] at this; omega
  rw [← hR j hj]; exact h.row j v hv, h.inj, h.old⟩
theorem take_set_at {A : List V} {m : Nat} {v : V} : ((A.set m v).take m) = A.take m := by
 rw [List.take_set, List.set_eq_of_length_le (by rw [List.length_take]; omega)]
theorem Dn.box_new {τ σ : Hp} {kd m : Nat} {A : List V} {R R' : Nat → List Cnd} (h : Dn τ kd m A R σ) {k1 : Nat} {c : Cnd} (hv : A[m]? = some nilV) (hR0 : R m = []) (hk1 : σ.gr k1 = none) (hR : ∀ i, i ≤ m → (if i = m then R i ++ [c] else R i) = R' i) :
  Dn τ kd m (A.set m (.gl k1)) R' (σ.setGr k1 (some ((47, 11), [encC c]))) := by
 have hne : k1 ≠ kd := fun e => by rw [e, h.at_] at hk1; cases hk1
 refine Dn.congr ?_ hR
 refine h.put (c := c) hv (k1 := k1) (fun _ => rfl) ?_ ?_ hne (.inl hk1) fun k h1 h2 _ => ?_
 ·simp [Hp.setGr, hR0]
 ·rw [take_set_at]; simp only [Hp.setGr, if_neg (Ne.symm hne)]; exact h.at_
 ·simp [Hp.setGr, h1]
theorem rSame_spec (a b : Pln) (ha : okPl a) : PCalls Tryz.prog 11 [.agg (encPl a), .agg (encPl b)] (fun v => v = .c (.bool (samePl a b))) := by
 have h1 := ha.ops
 have h2 := ha.from_
 refine PCalls.intro Tryz.call11 Tryz.func11 rfl Tryz.ntmps11 Tryz.results11 (by simp) ?_
 refine AW.sr @encPl.eq_1 ?_
 refine AW.seq_j (fun s' σ' => σ' = Hp.empty ∧ a.ops.length = b.ops.length ∧ a.from_.length = b.from_.length ∧ s'.t 2 = .lp 2 0 ∧ s'.l 2 = some [.sl (a.ops.map encOp), .sl (a.from_.map encF)] ∧ s'.t 3 = .lp 3 0 ∧ s'.l 3 = some [.sl (b.ops.map encOp), .sl (b.from_.map encF)]) ?_ ?_
 ·refine AW.seq_j (fun s' σ' => σ' = Hp.empty ∧ s'.t 2 = .lp 2 0 ∧ s'.l 2 = some [.sl (a.ops.map encOp), .sl (a.from_.map encF)] ∧ s'.t 3 = .lp 3 0 ∧ s'.l 3 = some [.sl (b.ops.map encOp), .sl (b.from_.map encF)] ∧ s'.t 22 = .c (.bool (((a.ops.length : Int) != b.ops.length) || ((a.from_.length : Int) != b.from_.length)))) ?_ ?_
  ·skip
   refine AW.reg0 ?_
   iterate 6 refine S.one @List.length_map.{0,0} ?_
   (refine S.sp @List.length_map.{0,0} fun b a13 => ?_; cases b <;> (try exact nope a13))
   all_goals iterate 9 refine S.one @List.length_map.{0,0} ?_
   all_goals refine S.nil ?_
   all_goals simp only [ze, simprocAttr, List.length_map]
   all_goals simp_all [bne]
  rintro s σ ⟨rfl, e2, l2, e3, l3, e22⟩
  refine AW.cond (b := ((a.ops.length : Int) != b.ops.length) || ((a.from_.length : Int) != b.from_.length)) e22 (fun hc => ?_) (fun hc => ?_)
  ·refine AW.sr trivial ?_
   refine AW.ret ?_
   simp only [zs, simprocAttr]
   have hc : ¬ (a.ops.length = b.ops.length ∧ a.from_.length = b.from_.length) := fun ⟨h3, h4⟩ => by rw [h3, h4] at hc; simp at hc
   by_cases h3 : a.ops.length = b.ops.length
   ·rw [samePl, allEq_len (f := allEq eqI) (fun h4 => hc ⟨h3, h4⟩), Bool.and_false]
   ·rw [samePl, allEq_len h3, Bool.false_and]
  ·refine AW.skip ?_
   simp only [Bool.or_eq_false_iff, bne_eq_false_iff_eq, Int.natCast_inj] at hc
   exact ⟨rfl, hc.1, hc.2, e2, l2, e3, l3⟩
 rintro s σ ⟨rfl, hl1, hl2, e2, l2, e3, l3⟩
 refine AW.seq_j (fun s' σ' => σ' = Hp.empty ∧ samePl a b = allEq (allEq eqI) a.from_ b.from_ ∧ s'.t 2 = .lp 2 0 ∧ s'.l 2 = some [.sl (a.ops.map encOp), .sl (a.from_.map encF)] ∧ s'.t 3 = .lp 3 0 ∧ s'.l 3 = some [.sl (b.ops.map encOp), .sl (b.from_.map encF)]) ?_ ?_
 ·refine AW.sr (J4 e2 l2 e3 l3) ?_
  refine AW.block ?_   -- 0
  refine AW.loop (fun m s σ => σ = Hp.empty ∧ ∃ i : Nat, m + i = a.ops.length ∧ s.t 2 = .lp 2 0 ∧ s.l 2 = some [.sl (a.ops.map encOp), .sl (a.from_.map encF)] ∧ s.t 3 = .lp 3 0 ∧ s.l 3 = some [.sl (b.ops.map encOp), .sl (b.from_.map encF)] ∧ s.t 5 = .c (.int .i64 (i : Nat)) ∧ allEq sameOp a.ops b.ops = allEq sameOp (a.ops.drop i) (b.ops.drop i)) a.ops.length ?_ ?_
  ·refine ⟨rfl, 0, by simp, ?_⟩
   simp only [zs, simprocAttr, e2, l2, e3, l3]
   all_goals ((try and_intros) <;> first | rfl | assumption | (rfl))
  clear e2 l2 e3 l3 s
  rintro m s σ ⟨rfl, i, hm, e2, l2, e3, l3, e5, hp⟩
  refine AW.seq_k fun K4 h4 => ?_
  all_goals refine AW.sr (J4 e2 l2 e5 @List.length_map.{0,0}) ?_
  refine AW.cond (b := decide (i < a.ops.length)) (by simp [ev]) (fun hi => ?_) (fun hi => ?_)
  ·have hi := of_decide_eq_true hi
   have hj : i < b.ops.length := by omega
   have hw := wadd1 (a := i) (by omega)
   have hg := getD_map (f := encOp) hi
   have hg2 := getD_map (f := encOp) hj
   have hd : a.ops.drop i = a.ops[i] :: a.ops.drop (i + 1) := List.drop_eq_getElem_cons hi
   have hd2 : b.ops.drop i = b.ops[i] :: b.ops.drop (i + 1) := List.drop_eq_getElem_cons hj
   have hum : a.ops[i] ∈ a.ops := List.getElem_mem hi
   generalize a.ops[i] = u at hg hd hum
   generalize b.ops[i] = v at hg2 hd2
   rw [hd, hd2, allEq] at hp
   refine AW.skip ?_
   simp only [zs, simprocAttr]
   all_goals apply_assumption
   refine AW.seq_k fun K6 h6 => ?_
   refine AW.block ?_   -- 1
   refine AW.seq_k fun K7 h7 => ?_
   refine AW.dT { sd := fun d => d == 2 || d == 3 } (.st 0 0 (.st 2 0 (.st 5 0 (.st 7 0 (.st 1 1 (.st 3 0 (.st 4 1 (.st 6 1 (.st 8 0 (.st 9 1 (.st 10 2 (.st 11 0 .nil)))))))))))) ?_
   iterate 10 refine T.onf (J12 @Bool.or_self @kill.eq_1 @kill.eq_2 e2 l2 e3 l3 e5 hi hj hg (J3 hg2 @encOp.eq_1 @List.length_map.{0,0})) ?_
   (refine T.g rfl trivial rfl rfl fun Y Z => ?_; simp only [zz, simprocAttr, -Int.reduceNatCast', -Int.reduceToNat, Nat.reduceBEq, Bool.or_self, kill, e2, l2, e3, l3, e5, hi, hj, hg, hg2, encOp, List.length_map]; refine PCalls.eqto (rsameOp_spec u v (ha.op u hum)) ?_ <;> (refine Z _ _ ?_; clear Z Y))
   all_goals refine T.onf (J12 @Bool.or_self @kill.eq_1 @kill.eq_2 e2 l2 e3 l3 e5 hi hj hg (J3 hg2 @encOp.eq_1 @List.length_map.{0,0})) ?_
   all_goals (refine T.nil ?_; apply_assumption)
   refine AW.cond (b := !sameOp u v) (by simp [ev]) (fun hc => ?_) (fun hc => ?_)
   ·refine AW.sr trivial ?_
    refine AW.ret ?_
    simp only [zs, simprocAttr]
    have hx : sameOp u v = false := by simpa using hc
    rw [samePl, hp, hx]; rfl
   ·refine AW.skip ?_
    simp only [zs, simprocAttr]
    all_goals apply_assumption
    have hx : sameOp u v = true := by simpa using hc
    refine AW.reg0 (S.rn (J6 e2 l2 e3 l3 e5 hw) ?_)
    simp only [ze, simprocAttr, e2, l2, e3, l3, e5, hw]
    refine ⟨m - 1, by omega, i + 1, by omega, ?_⟩
    all_goals ((try and_intros) <;> first | rfl | assumption | ((rw [hp, hx, Bool.true_and])))
  ·have hi := of_decide_eq_false hi
   refine AW.exit ?_
   rw [List.drop_of_length_le (by omega), List.drop_of_length_le (by omega)] at hp
   refine ⟨rfl, by rw [samePl, hp]; rfl, ?_⟩
   simp only [zs, simprocAttr, e2, l2, e3, l3]
   all_goals ((try and_intros) <;> first | rfl | assumption | (rfl))
 clear e2 l2 e3 l3 s
 rintro s σ ⟨rfl, hs0, e2, l2, e3, l3⟩
 refine AW.seq_k fun K9 h9 => ?_
 all_goals refine AW.sr (J4 e2 l2 e3 l3) ?_
 refine AW.block ?_   -- 2
 refine AW.loop (fun m s σ => σ = Hp.empty ∧ ∃ i : Nat, m + i = a.from_.length ∧ s.t 2 = .lp 2 0 ∧ s.l 2 = some [.sl (a.ops.map encOp), .sl (a.from_.map encF)] ∧ s.t 3 = .lp 3 0 ∧ s.l 3 = some [.sl (b.ops.map encOp), .sl (b.from_.map encF)] ∧ s.t 6 = .c (.int .i64 (i : Nat)) ∧ samePl a b = allEq (allEq eqI) (a.from_.drop i) (b.from_.drop i)) a.from_.length ?_ ?_
 ·refine ⟨rfl, 0, by simp, ?_⟩
  simp only [zs, simprocAttr, e2, l2, e3, l3]
  all_goals ((try and_intros) <;> first | rfl | assumption | ((exact hs0)))
 clear e2 l2 e3 l3 s
 rintro m s σ ⟨rfl, i, hm, e2, l2, e3, l3, e6, hp⟩
 refine AW.seq_k fun K11 h11 => ?_
 all_goals refine AW.sr (J4 e2 l2 e6 @List.length_map.{0,0}) ?_
 refine AW.cond (b := decide (i < a.from_.length)) (by simp [ev]) (fun hi => ?_) (fun hi => ?_)
 ·have hi := of_decide_eq_true hi
  have hj : i < b.from_.length := by omega
  have hw := wadd1 (a := i) (by omega)
  have hg := getD_map (f := encF) hi
  have hg2 := getD_map (f := encF) hj
  have hd : a.from_.drop i = a.from_[i] :: a.from_.drop (i + 1) := List.drop_eq_getElem_cons hi
  have hd2 : b.from_.drop i = b.from_[i] :: b.from_.drop (i + 1) := List.drop_eq_getElem_cons hj
  have hum : a.from_[i] ∈ a.from_ := List.getElem_mem hi
  generalize a.from_[i] = u at hg hd hum
  generalize b.from_[i] = v at hg2 hd2
  rw [hd, hd2, allEq] at hp
  refine AW.skip ?_
  simp only [zs, simprocAttr]
  all_goals apply_assumption
  refine AW.seq_k fun K13 h13 => ?_
  refine AW.block ?_   -- 3
  refine AW.seq_k fun K14 h14 => ?_
  refine AW.dT { sd := fun d => d == 2 || d == 3 } (.st 0 0 (.st 2 0 (.st 5 0 (.st 7 0 (.st 1 1 (.st 3 0 (.st 4 1 (.st 6 1 (.st 8 0 (.st 9 1 (.st 10 2 (.st 11 0 .nil)))))))))))) ?_
  iterate 10 refine T.onf (J12 @Bool.or_self @kill.eq_1 @kill.eq_2 e2 l2 e3 l3 e6 hi hj hg (J3 hg2 @encF.eq_1 @List.length_map.{0,0})) ?_
  (refine T.g rfl trivial rfl rfl fun Y Z => ?_; simp only [zz, simprocAttr, -Int.reduceNatCast', -Int.reduceToNat, Nat.reduceBEq, Bool.or_self, kill, e2, l2, e3, l3, e6, hi, hj, hg, hg2, encF, List.length_map]; refine PCalls.eqto (rsameI u v (ha.fr u hum)) ?_ <;> (refine Z _ _ ?_; clear Z Y))
  all_goals refine T.onf (J12 @Bool.or_self @kill.eq_1 @kill.eq_2 e2 l2 e3 l3 e6 hi hj hg (J3 hg2 @encF.eq_1 @List.length_map.{0,0})) ?_
  all_goals (refine T.nil ?_; apply_assumption)
  refine AW.cond (b := !allEq eqI u v) (by simp [ev]) (fun hc => ?_) (fun hc => ?_)
  ·refine AW.sr trivial ?_
   refine AW.ret ?_
   simp only [zs, simprocAttr]
   have hx : allEq eqI u v = false := by simpa using hc
   rw [hp, hx]; rfl
  ·refine AW.skip ?_
   simp only [zs, simprocAttr]
   all_goals apply_assumption
   have hx : allEq eqI u v = true := by simpa using hc
   refine AW.reg0 (S.rn (J6 e2 l2 e3 l3 e6 hw) ?_)
   simp only [ze, simprocAttr, e2, l2, e3, l3, e6, hw]
   refine ⟨m - 1, by omega, i + 1, by omega, ?_⟩
   all_goals ((try and_intros) <;> first | rfl | assumption | ((rw [hp, hx, Bool.true_and])))
 ·have hi := of_decide_eq_false hi
  rw [List.drop_of_length_le (by omega), List.drop_of_length_le (by omega)] at hp
  refine AW.exit ?_
  simp only [zs, simprocAttr]
  all_goals apply_assumption
  refine AW.sr trivial ?_
  refine AW.ret ?_
  simp only [zs, simprocAttr]
  rw [hp]; rfl
def tabH (tq : Nat × Nat × Nat) : Hp := Hp.empty.setObj 0 (some (tabV tq))
def planE (put : Pln → OpS → List Int → Pln × Nat) (p : Pat) : Pln × Int := if patErr p = 0 then (planR put p, 0) else (⟨[], []⟩, patErr p)
def patC (p : Pat) : List V := [.c (.string p.name), .c (.int .i64 p.within), .c (.int .i64 p.node.kind), .c (.string p.node.var), .c (.string p.node.type), .sl (p.node.tests.map encC), .sl (p.node.kids.map encNd), .sl (p.conds.map encC)]
theorem kept_tab {tq : Nat × Nat × Nat} {σ' : Hp} (h : σ'.obj 0 = some (tabV tq)) : (∀ g c, (tabH tq).obj g = some c → σ'.obj g = some c) ∧ (∀ k x, (tabH tq).gr k = some x → σ'.gr k = some x) :=
 ⟨fun g c hg => by
  by_cases e : g = 0
  ·subst e; simp [tabH] at hg; rw [← hg]; exact h
  ·simp [tabH, e, Hp.empty] at hg, fun k x hk => by simp [tabH, Hp.empty] at hk⟩
theorem zt78 : zeroT Tryz.prog 78 = some .nilFunc := by kernel_rfl
theorem join_one {σ : Hp} {g : Nat} {x : List V} (h : σ.obj g = none) : σ.setObj g (some x) = σ.join (Hp.empty.setObj g (some x)) ∧ Hp.Apart σ (Hp.empty.setObj g (some x)) := by
 refine ⟨Hp.eqs (fun j => ?_) (fun j => ?_), ⟨fun j => ?_, fun j => .inr rfl⟩⟩
 ·by_cases e : j = g
  ·subst e; simp [Hp.join, Hp.setObj, h]
  ·cases hj : σ.obj j <;> simp [Hp.join, Hp.setObj, e, hj, Hp.empty]
 ·cases hj : σ.gr j <;> simp [Hp.join, Hp.setObj, hj, Hp.empty]
 ·by_cases e : j = g
  ·subst e; exact .inl h
  ·exact .inr (by simp [Hp.setObj, e, Hp.empty])
theorem key_root (w : Int) : keyP ⟨5, ⟨#[]⟩, ⟨#[]⟩, [], [], w, 1⟩ where
 kind := by show inI64 5; unfold inI64; decide
 var := by show (0 : Nat) ≤ _; decide
 type := by show (0 : Nat) ≤ _; decide
 tl := by show (0 : Nat) < _; decide
 cl := by show (0 : Nat) < _; decide
 tests := fun c h => by cases h
 conds := fun c h => by cases h
theorem Of_spec {tq : Nat × Nat × Nat} (p : Pat) (hp : okPat p) (hi : p.node.inr) (hci : ∀ c ∈ p.conds, cI c) (hw : inI64 p.within) :
  ACalls Tryz.prog 9 [.agg (encPat p)] (tabH tq) (fun v σ' => σ' = tabH tq ∧ v = .tup [.agg (encPl (planE putM p).1), .c (.int .i64 (planE putM p).2)]) := by
 refine ACalls.keepH (R := fun v σ' => σ'.obj 0 = some (tabV tq) ∧ v = .tup [.agg (encPl (planE putM p).1), .c (.int .i64 (planE putM p).2)]) ?_ fun v σ' ⟨h1, h2⟩ => ⟨(kept_tab h1).1, (kept_tab h1).2, rfl, h2⟩
 have hE := (encNd_eq p.node).symm
 refine ACalls.intro Tryz.call9 Tryz.func9 rfl Tryz.ntmps9 Tryz.results9 (by simp) ?_
 refine AW.sr @encPat.eq_1 ?_
 refine AW.seq_j (fun s' σ' => σ' = tabH tq ∧ patErr p = 0 ∧ s'.t 1 = .lp 1 0 ∧ s'.l 1 = some (patC p) ∧ s'.t 2 = .lp 2 0 ∧ s'.l 2 = some [.c (.slice none 0 0), .c (.slice none 0 0)]) ?_ ?_
 ·refine AW.seq_k fun K2 h2 => ?_
  refine AW.reg0 ?_
  refine S.one trivial ?_
  (refine S.g rfl rfl fun Y Z => ?_; simp only [zz, simprocAttr, -Int.reduceNatCast', -Int.reduceToNat]; refine PCalls.eqto (Pattern_spec p hp) ?_ <;> (refine Z _ _ ?_; clear Z Y))
  all_goals refine S.one trivial ?_
  all_goals (refine S.nil ?_; simp only [ze, simprocAttr]; apply_assumption)
  all_goals refine AW.sr trivial ?_
  refine AW.cond (b := (patErr p != 0)) (by simp [ev]) (fun hb => ?_) (fun hb => ?_)
  ·have hb : ¬ patErr p = 0 := by simpa using hb
   refine AW.sr trivial ?_
   refine AW.ret ?_
   simp only [zs, simprocAttr, tt, cut, List.drop_zero, List.take_succ_cons, List.take_zero]
   simp only [zz, Bool.false_eq_true, if_true, simprocAttr, not_false_eq_true, true_and]
   rw [planE, if_neg hb]
   exact ⟨by simp [tabH], rfl⟩
  ·have hb : patErr p = 0 := by simpa using hb
   refine AW.skip ?_
   simp only [zs, simprocAttr]
   all_goals ((try and_intros) <;> first | rfl | assumption | (exact hb))
 rintro s σ0 ⟨rfl, he, e1, l1, e2, l2⟩
 have hgp := good_of he hi hci
 unfold patC at l1
 refine AW.seq_k fun K5 h5 => ?_
 all_goals refine AW.reg0 ?_
 all_goals refine S.one (J5 e1 l1 e2 l2 @encPat.eq_1) ?_
 all_goals (refine S.g rfl rfl fun Y Z => ?_; simp only [zz, simprocAttr, -Int.reduceNatCast', -Int.reduceToNat, e1, l1, e2, l2, encPat]; refine PCalls.eqto (clonePat_spec p hp.small (Nd.fewT_of _ hgp.err) (by have := hgp.len; omega)) ?_ <;> (refine Z _ _ ?_; clear Z Y))
 all_goals refine S.one (J5 e1 l1 e2 l2 @encPat.eq_1) ?_
 all_goals (refine S.nil ?_; simp only [ze, simprocAttr, e1, l1, e2, l2, encPat]; apply_assumption)
 refine AW.seq_k fun K6 h6 => ?_
 all_goals refine AW.region (T := { hp := fun d => d == 19 }) (fun _ _ h => by cases h) rfl ?_
 all_goals (refine S.g rfl rfl fun Y Z => ?_; simp only [zz, simprocAttr, -Int.reduceNatCast', -Int.reduceToNat, e1, l1, e2, l2]; intro gm ngm <;> (refine Z _ _ ?_; clear Z Y))
 all_goals refine S.one (J4 e1 l1 e2 l2) ?_
 all_goals (refine S.g rfl rfl fun Y Z => ?_; simp only [zz, simprocAttr, -Int.reduceNatCast', -Int.reduceToNat, tt, e1, l1, e2, l2]; intro g ng <;> (refine Z _ _ ?_; clear Z Y))
 all_goals iterate 2 refine S.one (J4 e1 l1 e2 l2) ?_
 all_goals (refine S.nil ?_; simp only [ze, simprocAttr, e1, l1, e2, l2]; apply_assumption)
 refine AW.seq_j (fun s' σ' => σ' = mkB tq g gm (.c (.slice none 0 0)) (.c (.slice none 0 0)) [] ∧ s'.t 1 = .lp 1 0 ∧ s'.l 1 = some (patC p) ∧ s'.t 2 = .lp 2 0 ∧ s'.l 2 = some [.c (.slice none 0 0), .c (.slice none 0 0)] ∧ s'.t 5 = .lp 5 0 ∧ s'.l 5 = some [ptrV g] ∧ s'.t 6 = .lp 6 0 ∧ s'.l 6 = some kindsC) ?_ ?_
 ·skip
  refine AW.reg0 (S.rn (J3 e1 e2 l2) ?_)
  simp only [ze, simprocAttr, e1, e2, l2]
  all_goals ((try and_intros) <;> first | rfl | assumption | (rfl))
 have hg0 : ¬ 0 = gm := fun e => by subst e; simp [tabH] at ngm
 have hg1 : ¬ g = gm := fun e => by subst e; simp at ng
 have hg2 : ¬ 0 = g := fun e => by subst e; simp [tabH, hg0] at ng
 clear e1 l1 e2 l2 s ngm ng
 rintro s σ0 ⟨rfl, e1, l1, e2, l2, e5, l5, e6, l6⟩
 refine AW.hushBox l1 (by simp [patC]) ?_
 have f1 : (s.bx 1 (patC p)).t 1 = capZ (patC p) := by simp [e1, bxV, capZ]
 have f2 : (s.bx 1 (patC p)).t 2 = .lp 2 0 := by simp [e2, bxV]
 have f5 : (s.bx 1 (patC p)).t 5 = .lp 5 0 := by simp [e5, bxV]
 have f6 : (s.bx 1 (patC p)).t 6 = .lp 6 0 := by simp [e6, bxV]
 have m2 : (s.bx 1 (patC p)).l 2 = some [.c (.slice none 0 0), .c (.slice none 0 0)] := by simp [l2]
 have m5 : (s.bx 1 (patC p)).l 5 = some [ptrV g] := by simp [l5]
 have m6 : (s.bx 1 (patC p)).l 6 = some kindsC := by simp [l6]
 generalize s.bx 1 (patC p) = s1 at *
 clear e1 l1 e2 l2 e5 l5 e6 l6
 refine AW.hushBox m5 (by simp) ?_
 have e1 : (s1.bx 5 [ptrV g]).t 1 = capZ (patC p) := by simp [f1, bxV, capZ]
 have e2 : (s1.bx 5 [ptrV g]).t 2 = .lp 2 0 := by simp [f2, bxV]
 have e5 : (s1.bx 5 [ptrV g]).t 5 = capZ [ptrV g] := by simp [f5, bxV, capZ]
 have e6 : (s1.bx 5 [ptrV g]).t 6 = .lp 6 0 := by simp [f6, bxV]
 have l2 : (s1.bx 5 [ptrV g]).l 2 = some [.c (.slice none 0 0), .c (.slice none 0 0)] := by simp [m2]
 have l6 : (s1.bx 5 [ptrV g]).l 6 = some kindsC := by simp [m6]
 generalize s1.bx 5 [ptrV g] = s2 at *
 clear f1 f2 f5 f6 m2 m5 m6
 refine AW.hushBox l6 (by simp [kindsC]) ?_
 have f1 : (s2.bx 6 kindsC).t 1 = capZ (patC p) := by simp [e1, bxV, capZ]
 have f2 : (s2.bx 6 kindsC).t 2 = .lp 2 0 := by simp [e2, bxV]
 have f5 : (s2.bx 6 kindsC).t 5 = capZ [ptrV g] := by simp [e5, bxV, capZ]
 have f6 : (s2.bx 6 kindsC).t 6 = capZ kindsC := by simp [e6, bxV, capZ]
 have m2 : (s2.bx 6 kindsC).l 2 = some [.c (.slice none 0 0), .c (.slice none 0 0)] := by simp [l2]
 generalize s2.bx 6 kindsC = s3 at *
 clear e1 e2 e5 e6 l2 l6
 refine AW.seq_k fun K7 h7 => ?_
 all_goals refine AW.region (T := { hp := fun d => d == 7 }) (fun _ _ h => by cases h) rfl ?_
 all_goals (refine S.g rfl rfl fun Y Z => ?_; simp only [zz, simprocAttr, -Int.reduceNatCast', -Int.reduceToNat, zt78, f1, f2, f5, f6, m2, capZ]; intro g4 ng4 <;> (refine Z _ _ ?_; clear Z Y))
 all_goals (refine S.nil ?_; simp only [ze, simprocAttr, f1, f2, f5, f6, m2, capZ]; apply_assumption)
 have ng4 : (mkB tq g gm (.c (.slice none 0 0)) (.c (.slice none 0 0)) []).obj g4 = none := by simpa using ng4
 all_goals refine AW.sr (J10 f1 f2 f5 f6 m2 @capZ_ok @isMap_nf @okF78 @szF78 @agF78) ?_
 have hmk : V.fn (Fn.func 35) [] [capZ kindsC, capZ (patC p), .c (.pointer (some ⟨g4, 0, none⟩)), capZ [ptrV g]] = makesF p g g4 := rfl
 obtain ⟨hj1, hj2⟩ := join_one ng4 (x := [makesF p g g4])
 rw [hmk, hj1]
 refine AW.st (fun s' => s'.t 1 = capZ (patC p) ∧ s'.t 2 = .lp 2 0 ∧ s'.t 5 = capZ [ptrV g] ∧ s'.t 7 = ptrV g4 ∧ s'.l 2 = some [.c (.slice none 0 0), .c (.slice none 0 0)]) ?_ ?_
 ·simp only [zs, simprocAttr, f1, f2, f5, m2]
  all_goals ((try and_intros) <;> first | rfl | assumption | (rfl))
 clear f1 f2 f5 f6 m2 s3
 rintro s ⟨e1, e2, e5, e7, l2⟩
 have hM0 : MkH tq g gm ⟨[], []⟩ (mkB tq g gm (.c (.slice none 0 0)) (.c (.slice none 0 0)) []) := .inl ⟨rfl, rfl, rfl⟩
 generalize mkB tq g gm (.c (.slice none 0 0)) (.c (.slice none 0 0)) [] = σm at hM0 hj2
 clear hj1 ng4
 have hτ4 : (Hp.empty.setObj g4 (some [makesF p g g4])).obj g4 = some [makesF p g g4] := by simp
 generalize Hp.empty.setObj g4 (some [makesF p g g4]) = τ at hj2 hτ4
 have hsz := hgp.size
 have hlen := hgp.len
 have hmake := makes_spec hg2 hg0 hg1 hw p.node hp.small hgp.err hi ⟨[], []⟩ p.conds σm τ hM0 hj2 hτ4 rfl (by simp; omega) hgp.len hgp.conds
 have hml := mkR_len putM_len (w := p.within) p.node ⟨[], []⟩ p.conds rfl
 have hob4 : (σm.join τ).obj g4 = some [makesF p g g4] := hj2.objR hτ4
 unfold ptrV makesF at hob4
 rw [encNd_eq] at hmake
 unfold ptrV at hmake
 generalize hr : p.node.mkR putM p.within ⟨[], []⟩ p.conds = r at hmake hml
 refine AW.seq_j (fun s' σ' => ∃ σ1, σ' = σ1.join τ ∧ Hp.Apart σ1 τ ∧ MkH tq g gm r.1 σ1 ∧ s'.t 1 = capZ (patC p) ∧ s'.t 2 = .lp 2 0 ∧ s'.t 5 = capZ [ptrV g] ∧ s'.l 2 = some [.c (.slice none 0 0), .c (.slice none 0 0)] ∧ s'.t 8 = .c (.int .i64 (r.2 : Nat))) ?_ ?_
 ·skip
  refine AW.reg0 ?_
  iterate 5 refine S.one (J12 e1 e2 e5 e7 l2 @ptrV.eq_1 hob4 @capZ.eq_1 @patC.eq_1 @isMap_fn @okF78 (J2 @szF78 @agF78)) ?_
  (refine S.g rfl rfl fun Y Z => ?_; simp only [zz, simprocAttr, -Int.reduceNatCast', -Int.reduceToNat, e1, e2, e5, e7, l2, ptrV, hob4, capZ, patC, isMap_fn, okF78, szF78, agF78]; (refine ACalls.to hmake ?_; rintro v1 σ1 ⟨rfl, σ2, hM2, ha2, rfl⟩) <;> (refine Z _ _ ?_; clear Z Y))
  all_goals refine S.one (J12 e1 e2 e5 e7 l2 @ptrV.eq_1 hob4 @capZ.eq_1 @patC.eq_1 @isMap_fn @okF78 (J2 @szF78 @agF78)) ?_
  all_goals refine S.nil ?_
  all_goals simp only [ze, simprocAttr, e1, e2, e5, e7, l2, ptrV, hob4, capZ, patC, isMap_fn, okF78, szF78, agF78]
  first | exact ⟨σ2, rfl, ha2, hM2⟩ | exact ⟨σ2, rfl, ha2, hM2, rfl, rfl, rfl, rfl, rfl⟩
 clear e1 e2 e5 e7 l2 hob4 s
 rintro s σw ⟨σ1, rfl, ha1, hM1, e1, e2, e5, l2, e8⟩
 have hkp := key_root p.within
 simp only [List.length_nil, Nat.zero_add] at hml
 have hput := ACalls.beside (put_spec hg2 hg0 hg1 hM1 hml.1 (by omega) ⟨5, ⟨#[]⟩, ⟨#[]⟩, [], [], p.within, 1⟩ [(r.2 : Int)] hkp (fun z hz => by rw [List.mem_singleton.1 hz]; unfold inI64; omega) (by show 1 < _; decide)) ha1
 have hpl := putM_len r.1 ⟨5, ⟨#[]⟩, ⟨#[]⟩, [], [], p.within, 1⟩ [(r.2 : Int)] hml.1
 have hpe : planE putM p = ((putM r.1 ⟨5, ⟨#[]⟩, ⟨#[]⟩, [], [], p.within, 1⟩ [(r.2 : Int)]).1, 0) := by rw [planE, if_pos he, planR, hr]
 rw [hpe]
 generalize putM r.1 ⟨5, ⟨#[]⟩, ⟨#[]⟩, [], [], p.within, 1⟩ [(r.2 : Int)] = y at hput hpl
 simp only [encOp, ptrV, encI, List.map_cons, List.map_nil] at hput
 refine AW.seq_k fun K9 h9 => ?_
 all_goals refine AW.reg0 ?_
 all_goals iterate 6 (refine S.g rfl rfl fun Y Z => ?_; simp only [zb, simprocAttr, -Int.reduceNatCast', -Int.reduceToNat, tt, e1, e2, e5, e8, l2, capZ, patC, ptrV]; refine Z _ _ ?_; clear Z Y)
 all_goals (refine S.g rfl rfl fun Y Z => ?_; simp only [zz, simprocAttr, -Int.reduceNatCast', -Int.reduceToNat, e1, e2, e5, e8, l2, capZ, patC, ptrV]; (refine ACalls.to hput ?_; rintro v1 σ9 ⟨σ2, ⟨rfl, hM2⟩, ha2, rfl⟩) <;> (refine Z _ _ ?_; clear Z Y))
 all_goals (refine S.nil ?_; simp only [ze, simprocAttr, e1, e2, e5, e8, l2, capZ, patC, ptrV]; apply_assumption)
 refine AW.st (fun s' => s'.t 2 = .lp 2 0 ∧ s'.t 5 = capZ [ptrV g] ∧ s'.l 2 = some [.c (.slice none 0 0), .c (.slice none 0 0)]) ?_ ?_
 ·simp only [zs, simprocAttr, e2, e5, l2]
  all_goals ((try and_intros) <;> first | rfl | assumption | (rfl))
 clear e1 e2 e5 e8 l2 s
 rintro s ⟨e2, e5, l2⟩
 obtain ⟨y, y2⟩ := y
 simp only at hM2 hpl
 rcases hM2 with ⟨hy0, _⟩ | ⟨ko, kf, hkk, rfl⟩
 ·rw [hy0] at hpl; exact absurd hpl.2.2.2 (Nat.not_lt_zero _)
 have ho0 : (mkP tq g gm ko kf y (keysOf y)).obj g = some [.gl ko, .gl kf, .c (.map (some gm))] := by simp [mkP, mkB]
 have hob : ((mkP tq g gm ko kf y (keysOf y)).join τ).obj g = some [.gl ko, .gl kf, .c (.map (some gm))] := by simp [Hp.join, ho0]
 have im : isMap [V.gl ko, .gl kf, .c (.map (some gm))] = false := rfl
 have hgo : ((mkP tq g gm ko kf y (keysOf y)).join τ).gr ko = some ((41, 7), y.ops.map encOp) := by simp [Hp.join, mkP, hkk]
 have hgf : (((mkP tq g gm ko kf y (keysOf y)).join τ).setGr ko none).gr kf = some ((48, 1), y.from_.map encF) := by simp [Hp.join, mkP, Ne.symm hkk, Hp.setGr]
 have htab : ((mkP tq g gm ko kf y (keysOf y)).join τ).obj 0 = some (tabV tq) := by simp [Hp.join, mkP, mkB, hg0, hg2]
 generalize (mkP tq g gm ko kf y (keysOf y)).join τ = σf at hob hgo hgf htab
 refine AW.seq_j (fun s' σ' => σ' = σf ∧ s'.t 2 = .lp 2 0 ∧ s'.l 2 = some [.gl ko, .gl kf] ∧ s'.t 3 = .c (.int .i64 0)) ?_ ?_
 ·skip
  refine AW.reg0 (S.rn (J7 e2 e5 l2 @capZ.eq_1 @ptrV.eq_1 hob im) ?_)
  simp only [ze, simprocAttr, e2, e5, l2, capZ, ptrV, hob, im]
  all_goals ((try and_intros) <;> first | rfl | assumption | (rfl))
 clear e2 e5 l2 s
 rintro s σ9 ⟨rfl, e2, l2, e3⟩
 refine AW.freeze hgo ?_
 refine AW.freeze hgf ?_
 refine AW.st (fun s' => s'.t 2 = .lp 2 0 ∧ s'.l 2 = some (encPl y) ∧ s'.t 3 = .c (.int .i64 0)) ?_ ?_
 ·refine ⟨by simp [e2, fzV, fz1], ?_, by simp [e3, fzV, fz1]⟩
  simp [l2, fz1, hkk, Ne.symm hkk, encPl]
 rintro s ⟨e2, l2, e3⟩
 unfold encPl at l2
 refine AW.ret ?_
 all_goals simp only [zs, simprocAttr, tt, cut, List.drop_zero, List.take_succ_cons, List.take_zero, e2, l2, e3]
 all_goals simp only [zz, Bool.false_eq_true, if_true, simprocAttr, not_false_eq_true, true_and, e2, l2, e3]
 refine ⟨?_, rfl⟩
 simpa [Hp.setGr] using htab
theorem idxC_spec {g : Nat} {p : Cnd → Bool} (l : List Cnd) (hl : l.length < 4611686018427387904) (hf : ∀ a, PCalls Tryz.prog g [.agg (encC a)] (fun v => v = .c (.bool (p a)))) :
  PCalls Tryz.prog 164 [.sl (l.map encC), .fn (.func g) [] []] (fun v => v = .c (.int .i64 (idxZ p 0 l))) := by
 refine PCalls.intro Tryz.call164 Tryz.func164 rfl Tryz.ntmps164 Tryz.results164 (by simp) ?_
 refine AW.sr trivial ?_
 refine AW.seq_k fun K2 h2 => ?_
 refine AW.sr @List.length_map.{0,0} ?_
 refine AW.block ?_   -- 0
 refine AW.loop (fun m s σ => σ = Hp.empty ∧ ∃ i : Nat, m + i = l.length ∧ s.t 0 = .sl (l.map encC) ∧ s.t 1 = .fn (.func g) [] [] ∧ s.t 7 = .c (.int .i64 (l.length : Nat)) ∧ s.t 8 = .c (.int .i64 (i : Nat)) ∧ idxZ p 0 l = idxZ p i (l.drop i)) l.length ?_ ?_
 ·refine ⟨rfl, 0, by simp, ?_⟩
  simp only [zs, simprocAttr]
  all_goals ((try and_intros) <;> first | rfl | assumption | (rfl))
 rintro m s σ ⟨rfl, i, hm, e0, e1, e7, e8, hp⟩
 all_goals refine AW.sr (J2 e7 e8) ?_
 refine AW.seq_k fun K5 h5 => ?_
 refine AW.cond (b := decide (i < l.length)) (by simp [ev]) (fun hc => ?_) (fun hc => ?_)
 ·have hi := of_decide_eq_true hc
  obtain ⟨x, hx, hg, hd⟩ := cnd_nth hi
  have hw := wadd1 (a := i) (by omega)
  rw [hd, idxZ] at hp
  refine AW.skip ?_
  simp only [zs, simprocAttr]
  all_goals apply_assumption
  refine AW.seq_k fun K6 h6 => ?_
  refine AW.block ?_   -- 1
  refine AW.sr e8 ?_
  refine AW.seq_k fun K8 h8 => ?_
  refine AW.reg0 ?_
  iterate 5 refine S.one (J6 e0 e1 hi hg @List.length_map.{0,0} @cd) ?_
  have q1q := J6 e0 e1 hi hg @List.length_map.{0,0} @cd
  (refine S.g rfl rfl fun Y Z => ?_; simp only [zz, simprocAttr, -Int.reduceNatCast', -Int.reduceToNat, q1q]; refine PCalls.eqto (hf x) ?_ <;> (refine Z _ _ ?_; clear Z Y))
  all_goals (refine S.nil ?_; simp only [ze, simprocAttr, q1q]; apply_assumption)
  refine AW.cond (b := p x) (by simp [ev]) (fun hc2 => ?_) (fun hc2 => ?_)
  ·refine AW.sr trivial ?_
   refine AW.ret ?_
   simp only [zs, simprocAttr]
   rw [hp, if_pos hc2]
  ·refine AW.skip ?_
   simp only [zs, simprocAttr]
   all_goals apply_assumption
   rw [hc2, if_neg Bool.false_ne_true] at hp
   have q2q := J5 e8 hw e0 e1 e7
   refine AW.reg0 (S.rn q2q ?_)
   simp only [ze, simprocAttr, q2q]
   refine ⟨m - 1, by omega, i + 1, by omega, ?_⟩
   all_goals ((try and_intros) <;> first | rfl | assumption | (exact hp))
 ·have hi := of_decide_eq_false hc
  refine AW.exit ?_
  simp only [zs, simprocAttr]
  all_goals apply_assumption
  rw [List.drop_of_length_le (by omega), idxZ] at hp
  refine AW.sr trivial ?_
  refine AW.ret ?_
  simp only [zs, simprocAttr]
  rw [hp]
theorem anyC_spec {g : Nat} {p : Cnd → Bool} (l : List Cnd) (hl : l.length < 4611686018427387904) (hf : ∀ a, PCalls Tryz.prog g [.agg (encC a)] (fun v => v = .c (.bool (p a)))) :
  PCalls Tryz.prog 129 [.sl (l.map encC), .fn (.func g) [] []] (fun v => v = .c (.bool (l.any p))) := by
 have hh := idxZ_any p l 0
 refine PCalls.intro Tryz.call129 Tryz.func129 rfl Tryz.ntmps129 Tryz.results129 (by simp) ?_
 refine AW.sr trivial ?_
 refine AW.seq_k fun K2 h2 => ?_
 refine AW.reg0 ?_
 iterate 2 refine S.one hh ?_
 (refine S.g rfl rfl fun Y Z => ?_; simp only [zz, simprocAttr, -Int.reduceNatCast', -Int.reduceToNat, hh]; refine PCalls.eqto (idxC_spec l hl hf) ?_ <;> (refine Z _ _ ?_; clear Z Y))
 all_goals iterate 2 refine S.one hh ?_
 all_goals (refine S.nil ?_; simp only [ze, simprocAttr, hh]; apply_assumption)
 refine AW.ret ?_
 all_goals simp only [zs, simprocAttr]
 all_goals ((try and_intros) <;> first | rfl | assumption | (rfl))
theorem int_get {l : List Int} {i : Nat} (h : i < l.length) : ∃ x, l[i]? = some x ∧ (l.map encI).getD i [] = encI x ∧ l.drop i = x :: l.drop (i + 1) := ⟨l[i], List.getElem?_eq_getElem h, getD_map h, List.drop_eq_getElem_cons h⟩
theorem idxI_spec {c c2 : V} {g : Nat} {p : Int → Bool} (l : List Int) (hl : l.length < 4611686018427387904) (hk : wk c = c) (hv : okV c = true) (hk2 : wk c2 = c2) (hv2 : okV c2 = true) (hf : ∀ a, PCalls Tryz.prog g [.c (.int .i64 a), c, c2] (fun v => v = .c (.bool (p a)))) :
  PCalls Tryz.prog 90 [.sl (l.map encI), .fn (.func g) [] [c, c2]] (fun v => v = .c (.int .i64 (idxZ p 0 l))) := by
 refine PCalls.intro Tryz.call90 Tryz.func90 rfl Tryz.ntmps90 Tryz.results90 (by simp) ?_
 refine AW.sr trivial ?_
 refine AW.seq_k fun K2 h2 => ?_
 refine AW.sr @List.length_map.{0,0} ?_
 refine AW.block ?_   -- 0
 refine AW.loop (fun m s σ => σ = Hp.empty ∧ ∃ i : Nat, m + i = l.length ∧ s.t 0 = .sl (l.map encI) ∧ s.t 1 = .fn (.func g) [] [c, c2] ∧ s.t 7 = .c (.int .i64 (l.length : Nat)) ∧ s.t 8 = .c (.int .i64 (i : Nat)) ∧ idxZ p 0 l = idxZ p i (l.drop i)) l.length ?_ ?_
 ·refine ⟨rfl, 0, by simp, ?_⟩
  simp only [zs, simprocAttr]
  all_goals ((try and_intros) <;> first | rfl | assumption | (rfl))
 rintro m s σ ⟨rfl, i, hm, e0, e1, e7, e8, hp⟩
 all_goals refine AW.sr (J2 e7 e8) ?_
 refine AW.seq_k fun K5 h5 => ?_
 refine AW.cond (b := decide (i < l.length)) (by simp [ev]) (fun hc => ?_) (fun hc => ?_)
 ·have hi := of_decide_eq_true hc
  obtain ⟨x, hx, hg, hd⟩ := int_get hi
  have hw := wadd1 (a := i) (by omega)
  rw [hd, idxZ] at hp
  refine AW.skip ?_
  simp only [zs, simprocAttr]
  all_goals apply_assumption
  refine AW.seq_k fun K6 h6 => ?_
  refine AW.block ?_   -- 1
  refine AW.sr e8 ?_
  refine AW.seq_k fun K8 h8 => ?_
  refine AW.reg0 ?_
  iterate 5 refine S.one (J10 e0 e1 hi hg hv hk hv2 hk2 @List.length_map.{0,0} @encI.eq_1) ?_
  have q1q := J10 e0 e1 hi hg hv hk hv2 hk2 @List.length_map.{0,0} @encI.eq_1
  (refine S.g rfl rfl fun Y Z => ?_; simp only [zz, simprocAttr, -Int.reduceNatCast', -Int.reduceToNat, q1q]; refine PCalls.eqto (hf x) ?_ <;> (refine Z _ _ ?_; clear Z Y))
  all_goals (refine S.nil ?_; simp only [ze, simprocAttr, q1q]; apply_assumption)
  refine AW.cond (b := p x) (by simp [ev]) (fun hc2 => ?_) (fun hc2 => ?_)
  ·refine AW.sr trivial ?_
   refine AW.ret ?_
   simp only [zs, simprocAttr]
   rw [hp, if_pos hc2]
  ·refine AW.skip ?_
   simp only [zs, simprocAttr]
   all_goals apply_assumption
   rw [hc2, if_neg Bool.false_ne_true] at hp
   have q2q := J5 e8 hw e0 e1 e7
   refine AW.reg0 (S.rn q2q ?_)
   simp only [ze, simprocAttr, q2q]
   refine ⟨m - 1, by omega, i + 1, by omega, ?_⟩
   all_goals ((try and_intros) <;> first | rfl | assumption | (exact hp))
 ·have hi := of_decide_eq_false hc
  refine AW.exit ?_
  simp only [zs, simprocAttr]
  all_goals apply_assumption
  rw [List.drop_of_length_le (by omega), idxZ] at hp
  refine AW.sr trivial ?_
  refine AW.ret ?_
  simp only [zs, simprocAttr]
  rw [hp]
theorem anyI_spec {c c2 : V} {g : Nat} {p : Int → Bool} (l : List Int) (hl : l.length < 4611686018427387904) (hk : wk c = c) (hv : okV c = true) (hk2 : wk c2 = c2) (hv2 : okV c2 = true) (hf : ∀ a, PCalls Tryz.prog g [.c (.int .i64 a), c, c2] (fun v => v = .c (.bool (p a)))) :
  PCalls Tryz.prog 53 [.sl (l.map encI), .fn (.func g) [] [c, c2]] (fun v => v = .c (.bool (l.any p))) := by
 have hh := idxZ_any p l 0
 refine PCalls.intro Tryz.call53 Tryz.func53 rfl Tryz.ntmps53 Tryz.results53 (by simp) ?_
 refine AW.sr trivial ?_
 refine AW.seq_k fun K2 h2 => ?_
 refine AW.reg0 ?_
 iterate 2 refine S.one (J5 hv hk hv2 hk2 hh) ?_
 have q1q := J5 hv hk hv2 hk2 hh
 (refine S.g rfl rfl fun Y Z => ?_; simp only [zz, simprocAttr, -Int.reduceNatCast', -Int.reduceToNat, q1q]; refine PCalls.eqto (idxI_spec l hl hk hv hk2 hv2 hf) ?_ <;> (refine Z _ _ ?_; clear Z Y))
 all_goals iterate 2 refine S.one q1q ?_
 all_goals (refine S.nil ?_; simp only [ze, simprocAttr, q1q]; apply_assumption)
 refine AW.ret ?_
 all_goals simp only [zs, simprocAttr]
 all_goals ((try and_intros) <;> first | rfl | assumption | (rfl))
def relBad (c : Cnd) : Bool := decide (c.rel < 1) || decide (c.rel > 6)
theorem rel_spec (c : Cnd) : PCalls Tryz.prog 130 [.agg (encC c)] (fun v => v = .c (.bool (relBad c))) := by
 refine PCalls.intro Tryz.call130 Tryz.func130 rfl Tryz.ntmps130 Tryz.results130 (by simp) ?_
 refine AW.sr (J2 @encC.eq_1 @encO.eq_1) ?_
 refine AW.seq_j (fun s' σ' => σ' = Hp.empty ∧ s'.t 2 = .c (.bool (relBad c))) ?_ ?_
 ·skip
  refine AW.reg0 ?_
  iterate 2 refine S.one trivial ?_
  (refine S.sp trivial fun b a5 => ?_; cases b <;> (try exact nope a5))
  all_goals iterate 6 refine S.one trivial ?_
  all_goals refine S.nil ?_
  all_goals simp only [ze, simprocAttr]
  all_goals first | (simp_all [relBad]; done) | (simp_all [relBad] <;> (intros; first | omega | (simp_all; done) | (simp_all; omega)))
 rintro s σ ⟨rfl, e2⟩
 refine AW.ret ?_
 all_goals simp only [zs, simprocAttr, e2]
 all_goals ((try and_intros) <;> first | rfl | assumption | (rfl))
def relsOk (l : List Cnd) : Bool := decide (l.length ≤ 16) && !l.any relBad
theorem rels_spec (l : List Cnd) (hl : l.length < 4611686018427387904) : PCalls Tryz.prog 88 [.sl (l.map encC)] (fun v => v = .c (.bool (relsOk l))) := by
 have q1 : ((l.length : Int) ≤ 16) = (l.length ≤ 16) := by rw [eq_iff_iff]; omega
 refine PCalls.intro Tryz.call88 Tryz.func88 rfl Tryz.ntmps88 Tryz.results88 (by simp) ?_
 refine AW.sr trivial ?_
 refine AW.seq_j (fun s' σ' => σ' = Hp.empty ∧ s'.t 2 = .c (.bool (relsOk l))) ?_ ?_
 ·skip
  refine AW.reg0 ?_
  have q1q := J2 @List.length_map.{0,0} q1
  iterate 2 refine S.one q1q ?_
  (refine S.sp q1q fun b a5 => ?_; cases b <;> (try exact nope a5))
  all_goals iterate 2 refine S.one q1q ?_
  all_goals have q2q := J2 @List.length_map.{0,0} q1
  all_goals (first | (refine S.y rfl rfl rfl rfl fun Y Z => ?_; simp only [zz, simprocAttr, -Int.reduceNatCast', -Int.reduceToNat, q2q]; refine PCalls.eqto (anyC_spec l hl rel_spec) ?_ <;> (refine Z _ _ ?_; clear Z Y)) | ((first | refine S.x rfl rfl rfl rfl fun Y Z => ?_ | refine S.u rfl rfl rfl rfl fun Y Z => ?_); simp only [ze, simprocAttr, -Int.reduceNatCast', -Int.reduceToNat]; refine Z _ _ ?_; clear Z Y))
  all_goals iterate 3 refine S.one q2q ?_
  all_goals refine S.nil ?_
  all_goals simp only [ze, simprocAttr, q2q]
  all_goals first | (simp_all [relsOk]; done) | (simp_all [relsOk] <;> (intros; first | omega | (simp_all; done) | (simp_all; omega)))
 rintro s σ ⟨rfl, e2⟩
 refine AW.ret ?_
 all_goals simp only [zs, simprocAttr, e2]
 all_goals ((try and_intros) <;> first | rfl | assumption | (rfl))
def bareO (o : OpS) : Bool := decide (o.var.size = 0) && (decide (o.type.size = 0) && decide (o.tests.length = 0))
theorem bare_spec (o : OpS) : PCalls Tryz.prog 89 [.agg (encOp o)] (fun v => v = .c (.bool (bareO o))) := by
 have q1 : (((o.tests.length : Nat) : Int) == 0) = decide (o.tests.length = 0) := by rw [Bool.eq_iff_iff]; simp
 refine PCalls.intro Tryz.call89 Tryz.func89 rfl Tryz.ntmps89 Tryz.results89 (by simp) ?_
 refine AW.sr @encOp.eq_1 ?_
 refine AW.seq_j (fun s' σ' => σ' = Hp.empty ∧ s'.t 2 = .c (.bool (bareO o))) ?_ ?_
 ·skip
  refine AW.reg0 ?_
  iterate 2 refine S.one @List.length_map.{0,0} ?_
  (refine S.sp @List.length_map.{0,0} fun b a5 => ?_; cases b <;> (try exact nope a5))
  all_goals iterate 3 refine S.one @List.length_map.{0,0} ?_
  all_goals (first | (refine S.sp @List.length_map.{0,0} fun b a9 => ?_; cases b <;> (try exact nope a9)) | ((first | refine S.x rfl rfl rfl rfl fun Y Z => ?_ | refine S.u rfl rfl rfl rfl fun Y Z => ?_); simp only [ze, simprocAttr, -Int.reduceNatCast', -Int.reduceToNat]; refine Z _ _ ?_; clear Z Y))
  all_goals iterate 8 refine S.one @List.length_map.{0,0} ?_
  all_goals refine S.nil ?_
  all_goals simp only [ze, simprocAttr, List.length_map]
  all_goals first | (simp_all [bareO, q1]; done) | (simp_all [bareO, q1] <;> (intros; first | omega | (simp_all; done) | (simp_all; omega)))
 rintro s σ ⟨rfl, e2⟩
 refine AW.ret ?_
 all_goals simp only [zs, simprocAttr, e2]
 all_goals ((try and_intros) <;> first | rfl | assumption | (rfl))
structure okOpN (o : OpS) : Prop extends okOp o where
  var : o.var.size < 4611686018427387904
  type : o.type.size < 4611686018427387904
def opOk (o : OpS) : Bool := (decide (1 ≤ o.win) && (decide (o.win ≤ 1099511627776) && (relsOk o.tests && relsOk o.conds))) &&
  (if o.kind = 1 then o.ins == 1 && (isName o.var && isName o.type) else if o.kind = 5 then o.ins == 1 && bareO o else if o.kind = 2 ∨ o.kind = 3 ∨ o.kind = 4 then decide (2 ≤ o.ins) && (decide (o.ins ≤ 12) && bareO o) else false)
def opErr (o : OpS) : Int := if opOk o then 0 else 140
theorem operCheck_spec (o : OpS) (ho : okOpN o) : PCalls Tryz.prog 52 [.agg (encOp o)] (fun v => v = .c (.int .i64 (opErr o))) := by
 refine PCalls.intro Tryz.call52 Tryz.func52 rfl Tryz.ntmps52 Tryz.results52 (by simp) ?_
 refine AW.sr @encOp.eq_1 ?_
 refine AW.seq_j (fun s' σ' => σ' = Hp.empty ∧ s'.t 1 = .lp 1 0 ∧ s'.l 1 = some (encOp o) ∧ s'.t 3 = .c (.bool (decide (1 ≤ o.win) && (decide (o.win ≤ 1099511627776) && (relsOk o.tests && relsOk o.conds))))) ?_ ?_
 ·skip
  refine AW.reg0 ?_
  iterate 2 refine S.one trivial ?_
  (refine S.sp trivial fun b a6 => ?_; cases b <;> (try exact nope a6))
  all_goals iterate 3 refine S.one trivial ?_
  all_goals (first | (refine S.sp trivial fun b a10 => ?_; cases b <;> (try exact nope a10)) | ((first | refine S.x rfl rfl rfl rfl fun Y Z => ?_ | refine S.u rfl rfl rfl rfl fun Y Z => ?_); simp only [ze, simprocAttr, -Int.reduceNatCast', -Int.reduceToNat]; refine Z _ _ ?_; clear Z Y))
  all_goals iterate 4 refine S.one trivial ?_
  all_goals (first | (refine S.y rfl rfl rfl rfl fun Y Z => ?_; simp only [zz, simprocAttr, -Int.reduceNatCast', -Int.reduceToNat]; (first | refine PCalls.eqto (rels_spec o.tests ho.tests) ?_ | refine PCalls.eqto (rels_spec o.conds ho.conds) ?_); refine S.bool fun b a15 => ?_; cases b <;> (try exact nope a15) <;> (refine Z _ _ ?_; clear Z Y)) | ((first | refine S.x rfl rfl rfl rfl fun Y Z => ?_ | refine S.u rfl rfl rfl rfl fun Y Z => ?_); simp only [ze, simprocAttr, -Int.reduceNatCast', -Int.reduceToNat]; refine Z _ _ ?_; clear Z Y))
  all_goals iterate 4 refine S.one trivial ?_
  all_goals (first | (refine S.y rfl rfl rfl rfl fun Y Z => ?_; simp only [zz, simprocAttr, -Int.reduceNatCast', -Int.reduceToNat]; (first | refine PCalls.eqto (rels_spec o.tests ho.tests) ?_ | refine PCalls.eqto (rels_spec o.conds ho.conds) ?_) <;> (refine Z _ _ ?_; clear Z Y)) | ((first | refine S.x rfl rfl rfl rfl fun Y Z => ?_ | refine S.u rfl rfl rfl rfl fun Y Z => ?_); simp only [ze, simprocAttr, -Int.reduceNatCast', -Int.reduceToNat]; refine Z _ _ ?_; clear Z Y))
  all_goals iterate 2 refine S.one trivial ?_
  all_goals refine S.nil ?_
  all_goals simp only [ze, simprocAttr]
  all_goals first | (simp_all [encOp]; done) | (simp_all [encOp] <;> (intros; first | omega | (simp_all; done) | (simp_all; omega)))
 rintro s σ ⟨rfl, e1, l1, e3⟩
 generalize hpre : (decide (1 ≤ o.win) && (decide (o.win ≤ 1099511627776) && (relsOk o.tests && relsOk o.conds))) = pre at e3
 unfold encOp at l1
 refine AW.seq_j (fun s' σ' => σ' = Hp.empty ∧ s'.t 3 = .c (.bool (opOk o))) ?_ ?_
 ·refine AW.sr (J2 e1 l1) ?_
  refine AW.block ?_   -- 0
  refine AW.sr trivial ?_
  refine AW.cond (b := (o.kind == 1)) (by simp [ev]) (fun h1 => ?_) (fun h1 => ?_)
  ·have h1 : o.kind = 1 := eq_of_beq h1
   cases pre
   all_goals refine AW.reg0 ?_
   all_goals iterate 4 refine S.one (J3 e1 l1 e3) ?_
   all_goals (first | (refine S.sp (J3 e1 l1 e3) fun b a30 => ?_; cases b <;> (try exact nope a30)) | ((first | refine S.x rfl rfl rfl rfl fun Y Z => ?_ | refine S.u rfl rfl rfl rfl fun Y Z => ?_); simp only [ze, simprocAttr, -Int.reduceNatCast', -Int.reduceToNat]; refine Z _ _ ?_; clear Z Y))
   all_goals iterate 4 refine S.one (J3 e1 l1 e3) ?_
   all_goals (first | (refine S.y rfl rfl rfl rfl fun Y Z => ?_; simp only [zz, simprocAttr, -Int.reduceNatCast', -Int.reduceToNat, e1, l1, e3]; (first | refine PCalls.eqto (name_spec o.var ho.var) ?_ | refine PCalls.eqto (name_spec o.type ho.type) ?_); refine S.bool fun b a35 => ?_; cases b <;> (try exact nope a35) <;> (refine Z _ _ ?_; clear Z Y)) | ((first | refine S.x rfl rfl rfl rfl fun Y Z => ?_ | refine S.u rfl rfl rfl rfl fun Y Z => ?_); simp only [ze, simprocAttr, -Int.reduceNatCast', -Int.reduceToNat]; refine Z _ _ ?_; clear Z Y))
   all_goals iterate 4 refine S.one (J3 e1 l1 e3) ?_
   all_goals (first | (refine S.y rfl rfl rfl rfl fun Y Z => ?_; simp only [zz, simprocAttr, -Int.reduceNatCast', -Int.reduceToNat, e1, l1, e3]; (first | refine PCalls.eqto (name_spec o.var ho.var) ?_ | refine PCalls.eqto (name_spec o.type ho.type) ?_); refine S.bool fun b a40 => ?_; cases b <;> (try exact nope a40) <;> (refine Z _ _ ?_; clear Z Y)) | ((first | refine S.x rfl rfl rfl rfl fun Y Z => ?_ | refine S.u rfl rfl rfl rfl fun Y Z => ?_); simp only [ze, simprocAttr, -Int.reduceNatCast', -Int.reduceToNat]; refine Z _ _ ?_; clear Z Y))
   all_goals iterate 2 refine S.one (J3 e1 l1 e3) ?_
   all_goals refine S.nil ?_
   all_goals simp only [ze, simprocAttr, e1, l1, e3]
   all_goals first | (simp_all [opOk]; done) | (simp_all [opOk] <;> (intros; first | omega | (simp_all; done) | (simp_all; omega)))
  have h1 : ¬ o.kind = 1 := by simpa using h1
  all_goals refine AW.sr trivial ?_
  refine AW.cond (b := (o.kind == 5)) (by simp [ev]) (fun h5 => ?_) (fun h5 => ?_)
  ·have h5 : o.kind = 5 := eq_of_beq h5
   cases pre
   all_goals refine AW.reg0 ?_
   all_goals iterate 4 refine S.one (J3 e1 l1 e3) ?_
   all_goals (first | (refine S.sp (J3 e1 l1 e3) fun b a48 => ?_; cases b <;> (try exact nope a48)) | ((first | refine S.x rfl rfl rfl rfl fun Y Z => ?_ | refine S.u rfl rfl rfl rfl fun Y Z => ?_); simp only [ze, simprocAttr, -Int.reduceNatCast', -Int.reduceToNat]; refine Z _ _ ?_; clear Z Y))
   all_goals iterate 3 refine S.one (J3 e1 l1 e3) ?_
   all_goals (first | (refine S.y rfl rfl rfl rfl fun Y Z => ?_; simp only [zz, simprocAttr, -Int.reduceNatCast', -Int.reduceToNat, e1, l1, e3]; refine PCalls.eqto (bare_spec o) ?_; refine S.bool fun b a52 => ?_; cases b <;> (try exact nope a52) <;> (refine Z _ _ ?_; clear Z Y)) | ((first | refine S.x rfl rfl rfl rfl fun Y Z => ?_ | refine S.u rfl rfl rfl rfl fun Y Z => ?_); simp only [ze, simprocAttr, -Int.reduceNatCast', -Int.reduceToNat]; refine Z _ _ ?_; clear Z Y))
   all_goals iterate 2 refine S.one (J3 e1 l1 e3) ?_
   all_goals refine S.nil ?_
   all_goals simp only [ze, simprocAttr, e1, l1, e3]
   all_goals first | (simp_all [opOk]; done) | (simp_all [opOk] <;> (intros; first | omega | (simp_all; done) | (simp_all; omega)))
  have h5 : ¬ o.kind = 5 := by simpa using h5
  refine AW.seq_j (fun s' σ' => σ' = Hp.empty ∧ s'.t 1 = .lp 1 0 ∧ s'.l 1 = s.l 1 ∧ s'.t 3 = .c (.bool pre) ∧ s'.t 54 = .c (.bool (decide (o.kind = 2 ∨ o.kind = 3 ∨ o.kind = 4)))) ?_ ?_
  ·refine AW.sr (J3 e1 l1 e3) ?_
   refine AW.cond (b := (o.kind == 2)) (by simp [ev]) (fun h2 => ?_) (fun h2 => ?_)
   ·have h2 : o.kind = 2 := eq_of_beq h2
    refine AW.skip ?_
    simp only [zs, simprocAttr, e1, l1, e3]
    all_goals ((try and_intros) <;> first | rfl | assumption | (simp [h2]))
   have h2 : ¬ o.kind = 2 := by simpa using h2
   all_goals refine AW.sr (J3 e1 l1 e3) ?_
   refine AW.cond (b := (o.kind == 3)) (by simp [ev]) (fun h3 => ?_) (fun h3 => ?_)
   ·have h3 : o.kind = 3 := eq_of_beq h3
    refine AW.skip ?_
    simp only [zs, simprocAttr, e1, l1, e3]
    all_goals ((try and_intros) <;> first | rfl | assumption | (simp [h3]))
   have h3 : ¬ o.kind = 3 := by simpa using h3
   all_goals refine AW.reg0 (S.rn (J3 e1 l1 e3) ?_)
   all_goals simp only [ze, simprocAttr, e1, l1, e3]
   all_goals ((try and_intros) <;> first | rfl | assumption | ((congr 2; rw [Bool.eq_iff_iff]; simp [h2, h3])))
  rintro s2 σ2 ⟨rfl, e1', l1', e3', e54⟩
  rw [l1] at l1'
  refine AW.cond (b := decide (o.kind = 2 ∨ o.kind = 3 ∨ o.kind = 4)) e54 (fun h2 => ?_) (fun h2 => ?_)
  ·have h2 := of_decide_eq_true h2
   cases pre
   all_goals refine AW.reg0 ?_
   all_goals have q1q := J3 e1' l1' e3'
   all_goals iterate 4 refine S.one q1q ?_
   all_goals (first | (refine S.sp q1q fun b a62 => ?_; cases b <;> (try exact nope a62)) | ((first | refine S.x rfl rfl rfl rfl fun Y Z => ?_ | refine S.u rfl rfl rfl rfl fun Y Z => ?_); simp only [ze, simprocAttr, -Int.reduceNatCast', -Int.reduceToNat]; refine Z _ _ ?_; clear Z Y))
   all_goals iterate 4 refine S.one q1q ?_
   all_goals (first | (refine S.sp q1q fun b a67 => ?_; cases b <;> (try exact nope a67)) | ((first | refine S.x rfl rfl rfl rfl fun Y Z => ?_ | refine S.u rfl rfl rfl rfl fun Y Z => ?_); simp only [ze, simprocAttr, -Int.reduceNatCast', -Int.reduceToNat]; refine Z _ _ ?_; clear Z Y))
   all_goals iterate 3 refine S.one q1q ?_
   all_goals have q2q := J3 e1' l1' e3'
   all_goals (first | (refine S.y rfl rfl rfl rfl fun Y Z => ?_; simp only [zz, simprocAttr, -Int.reduceNatCast', -Int.reduceToNat, q2q]; refine PCalls.eqto (bare_spec o) ?_; refine S.bool fun b a71 => ?_; cases b <;> (try exact nope a71) <;> (refine Z _ _ ?_; clear Z Y)) | ((first | refine S.x rfl rfl rfl rfl fun Y Z => ?_ | refine S.u rfl rfl rfl rfl fun Y Z => ?_); simp only [ze, simprocAttr, -Int.reduceNatCast', -Int.reduceToNat]; refine Z _ _ ?_; clear Z Y))
   all_goals iterate 2 refine S.one q2q ?_
   all_goals refine S.nil ?_
   all_goals simp only [ze, simprocAttr, q2q]
   all_goals first | (simp_all [opOk]; done) | (simp_all [opOk] <;> (intros; first | omega | (simp_all; done) | (simp_all; omega)))
  ·have h2 := of_decide_eq_false h2
   refine AW.reg0 (S.rn trivial ?_)
   simp only [ze, simprocAttr]
   simp_all [opOk]
 clear e1 l1 e3 s
 rintro s σ ⟨rfl, e3⟩
 refine AW.seq_j (fun s' σ' => σ' = Hp.empty ∧ opOk o = true) ?_ ?_
 ·refine AW.sr e3 ?_
  refine AW.cond (b := !opOk o) (by simp [ev]) (fun hb => ?_) (fun hb => ?_)
  ·have hb : opOk o = false := by simpa using hb
   refine AW.sr trivial ?_
   refine AW.ret ?_
   simp only [zs, simprocAttr]
   rw [opErr, hb]; rfl
  ·refine AW.skip ?_
   exact ⟨rfl, by simpa using hb⟩
 rintro s σ ⟨rfl, hb⟩
 all_goals refine AW.sr trivial ?_
 refine AW.ret ?_
 all_goals simp only [zs, simprocAttr]
 rw [opErr, hb]; rfl
def usesRow (i : Int) (k : Nat) : Nat → List Int → List (Nat × Nat)
  | _, [] => []
  | j, f :: l => (if f == i then [(k, j)] else []) ++ usesRow i k (j + 1) l
def usesAll (i : Int) : Nat → List (List Int) → List (Nat × Nat)
  | _, [] => []
  | k, f :: l => usesRow i k 0 f ++ usesAll i (k + 1) l
theorem usesRow_len (i : Int) (k : Nat) : ∀ (l : List Int) (j : Nat), (usesRow i k j l).length ≤ l.length
  | [], _ => Nat.le_refl _
  | f :: l, j => by
    have := usesRow_len i k l (j + 1)
    simp only [usesRow, List.length_append, List.length_cons]
    split <;> simp <;> omega
theorem usesAll_len (i : Int) : ∀ (l : List (List Int)) (k : Nat), (usesAll i k l).length ≤ (l.map List.length).sum
  | [], _ => Nat.le_refl _
  | f :: l, k => by
    have h1 := usesAll_len i l (k + 1)
    have h2 := usesRow_len i k f 0
    simp only [usesAll, List.length_append, List.map_cons, List.sum_cons]; omega
def encU (u : Nat × Nat) : List V := [.c (.int .i64 (u.1 : Nat)), .c (.int .i64 (u.2 : Nat))]
def AccU (l : List (Nat × Nat)) (u : V) (σ : Hp) : Prop := (u = .c (.slice none 0 0) ∧ l = [] ∧ σ = Hp.empty) ∨ ∃ k, u = .gl k ∧ σ = Hp.empty.setGr k (some ((53, 2), l.map encU))
theorem AccU.kill {l : List (Nat × Nat)} {u : V} {σ : Hp} (h : AccU l u σ) (d : Nat) : kill d u = u := by
 rcases h with ⟨h, _⟩ | ⟨k, h, _⟩ <;> rw [h] <;> rfl
theorem len_f1s {l : List (List Int)} {i : Nat} (h : i < l.length) : ∃ f, l[i]? = some f ∧ f ∈ l ∧ (l.map encF).getD i [] = encF f ∧ l.drop i = f :: l.drop (i + 1) := ⟨l[i], List.getElem?_eq_getElem h, List.getElem_mem h, getD_map h, List.drop_eq_getElem_cons h⟩
theorem len_u1 (a b : Int) : (∀ (e : List V), e ∈ [[V.c (.int .i64 a), .c (.int .i64 b)]] → e.length = 2) = True := eq_true fun e he => by rw [List.mem_singleton.1 he]; rfl
def smallPl (x : Pln) : Prop := x.ops.length ≤ 1048576 ∧ x.from_.length ≤ 1048576 ∧ (x.from_.map List.length).sum ≤ 1048576
theorem len_sum {l : List (List Int)} {f : List Int} (h : f ∈ l) : f.length ≤ (l.map List.length).sum := by
  induction l with
  | nil => cases h
  | cons g l ih =>
    simp only [List.map_cons, List.sum_cons]
    rcases List.mem_cons.1 h with rfl | h
    · omega
    · have := ih h; omega
theorem uses_spec (x : Pln) (hx : smallPl x) (i : Int) : PCalls Tryz.prog 51 [.agg (encPl x), .c (.int .i64 i)] (fun v => v = .sl ((usesAll i 0 x.from_).map encU)) := by
 obtain ⟨hs1, hs2, hs3⟩ := hx
 have hal := usesAll_len i x.from_ 0
 refine PCalls.intro Tryz.call51 Tryz.func51 rfl Tryz.ntmps51 Tryz.results51 (by simp) ?_
 refine AW.sr @encPl.eq_1 ?_
 refine AW.sr trivial ?_
 refine AW.seq_j (fun s' σ' => AccU (usesAll i 0 x.from_) (s'.t 5) σ') ?_ ?_
 ·refine AW.sr @List.length_map.{0,0} ?_
  refine AW.block ?_   -- 0
  refine AW.loop (fun m s' σ' => ∃ (k : Nat) (acc : List (Nat × Nat)), m + k = x.from_.length ∧ AccU acc (s'.t 5) σ' ∧ usesAll i 0 x.from_ = acc ++ usesAll i k (x.from_.drop k) ∧ s'.t 1 = .c (.int .i64 i) ∧ s'.t 11 = .sl (x.from_.map encF) ∧ s'.t 12 = .c (.int .i64 (x.from_.length : Nat)) ∧ s'.t 13 = .c (.int .i64 (k : Nat))) x.from_.length ?_ ?_
  ·refine ⟨0, [], by simp, ?_⟩
   simp only [zs, simprocAttr, -Int.reduceNatCast', -Int.reduceToNat]
   exact ⟨.inl ⟨rfl, rfl, rfl⟩, rfl, rfl⟩
  rintro m s σ ⟨k, acc, hm, hacc, hp, e1, e11, e12, e13⟩
  all_goals refine AW.sr (J2 e12 e13) ?_
  refine AW.seq_k fun K5 h5 => ?_
  refine AW.cond (b := decide (k < x.from_.length)) (by simp [ev]) (fun hk => ?_) (fun hk => ?_)
  ·have hk := of_decide_eq_true hk
   obtain ⟨f, hf, hfm, hg, hd⟩ := len_f1s hk
   have hfl := len_sum hfm
   have hw := wadd1 (a := k) (by omega)
   have hk5 := hacc.kill
   rw [hd, usesAll] at hp
   refine AW.skip ?_
   simp only [zs, simprocAttr]
   all_goals apply_assumption
   refine AW.seq_j (fun s' σ' => ∃ acc', AccU acc' (s'.t 5) σ' ∧ usesAll i 0 x.from_ = acc' ++ usesAll i (k + 1) (x.from_.drop (k + 1)) ∧ s'.t 1 = .c (.int .i64 i) ∧ s'.t 11 = .sl (x.from_.map encF) ∧ s'.t 12 = .c (.int .i64 (x.from_.length : Nat)) ∧ s'.t 13 = .c (.int .i64 (k : Nat))) ?_ ?_
   ·refine AW.block ?_   -- 1
    refine AW.sr (J6 e11 e13 hk hg @encF.eq_1 @List.length_map.{0,0}) ?_
    refine AW.sr (J5 e1 e11 e12 e13 @List.length_map.{0,0}) ?_
    refine AW.block ?_   -- 2
    refine AW.loop (fun m s' σ' => ∃ (j : Nat) (acc : List (Nat × Nat)), m + j = f.length ∧ AccU acc (s'.t 5) σ' ∧ usesAll i 0 x.from_ = acc ++ (usesRow i k j (f.drop j) ++ usesAll i (k + 1) (x.from_.drop (k + 1))) ∧ s'.t 1 = .c (.int .i64 i) ∧ s'.t 6 = .c (.int .i64 (k : Nat)) ∧ s'.t 11 = .sl (x.from_.map encF) ∧ s'.t 12 = .c (.int .i64 (x.from_.length : Nat)) ∧ s'.t 13 = .c (.int .i64 (k : Nat)) ∧ s'.t 18 = .sl (f.map encI) ∧ s'.t 19 = .c (.int .i64 (f.length : Nat)) ∧ s'.t 20 = .c (.int .i64 (j : Nat))) f.length ?_ ?_
    ·refine ⟨0, acc, by simp, ?_⟩
     simp only [zs, simprocAttr, -Int.reduceNatCast', -Int.reduceToNat, e1, e11, e12, e13]
     exact ⟨hacc, hp, rfl⟩
    clear e1 e11 e12 e13 hp hacc hk5 acc s σ
    rintro m2 s σ ⟨j, acc, hm2, hacc, hp, e1, e6, e11, e12, e13, e18, e19, e20⟩
    all_goals refine AW.sr (J2 e19 e20) ?_
    refine AW.seq_k fun K9 h9 => ?_
    refine AW.cond (b := decide (j < f.length)) (by simp [ev]) (fun hj => ?_) (fun hj => ?_)
    ·have hj := of_decide_eq_true hj
     obtain ⟨z, hz, hg2, hd2⟩ := int_get hj
     have hw2 := wadd1 (a := j) (by omega)
     rw [hd2, usesRow, List.append_assoc, ← List.append_assoc acc] at hp
     have hal2 : acc.length + 1 ≤ 1048577 := by have := congrArg List.length hp; simp at this; omega
     refine AW.skip ?_
     simp only [zs, simprocAttr]
     all_goals apply_assumption
     refine AW.seq_j (fun s' σ' => AccU (acc ++ (if z == i then [(k, j)] else [])) (s'.t 5) σ' ∧ s'.t 1 = .c (.int .i64 i) ∧ s'.t 6 = .c (.int .i64 (k : Nat)) ∧ s'.t 11 = .sl (x.from_.map encF) ∧ s'.t 12 = .c (.int .i64 (x.from_.length : Nat)) ∧ s'.t 13 = .c (.int .i64 (k : Nat)) ∧ s'.t 18 = .sl (f.map encI) ∧ s'.t 19 = .c (.int .i64 (f.length : Nat)) ∧ s'.t 20 = .c (.int .i64 (j : Nat))) ?_ ?_
     ·refine AW.block ?_   -- 3
      refine AW.sr (J6 e18 e20 hj hg2 @encI.eq_1 @List.length_map.{0,0}) ?_
      refine AW.sr e1 ?_
      refine AW.cond (b := (z == i)) (by simp [ev]) (fun hc => ?_) (fun hc => ?_)
      ·rw [if_pos hc]
       have y3 : (1 ≤ maxLen) = True := eq_true (by unfold maxLen; omega)
       have y4 : (16 ≤ reach) = True := eq_true (by unfold reach; omega)
       have z1 := len_u1 (k : Nat) (j : Nat)
       rcases hacc with ⟨h5, rfl, rfl⟩ | ⟨kk, h5, rfl⟩
       ·skip
        refine AW.reg0 ?_
        iterate 5 (refine S.g rfl rfl fun Y Z => ?_; simp only [zb, simprocAttr, -Int.reduceNatCast', -Int.reduceToNat, e1, e6, e11, e12, e13, e18, e19, e20, h5, y3, y4, z1, tt]; refine Z _ _ ?_; clear Z Y)
        all_goals have q1q := J12 e1 e6 e11 e12 e13 e18 e19 e20 h5 y3 y4 z1
        all_goals (refine S.g rfl rfl fun Y Z => ?_; simp only [zz, simprocAttr, -Int.reduceNatCast', -Int.reduceToNat, tt, q1q]; intro k1 hk1 <;> (refine Z _ _ ?_; clear Z Y))
        all_goals refine S.one q1q ?_
        all_goals refine S.nil ?_
        all_goals simp only [ze, simprocAttr, q1q]
        exact .inr ⟨k1, rfl, rfl⟩
       ·have y1 : (acc.length + 1 ≤ maxLen) = True := eq_true (by unfold maxLen; omega)
        have y2 : ((acc.length + 1) * 16 ≤ reach) = True := eq_true (by unfold reach; omega)
        refine AW.reg0 ?_
        iterate 5 (refine S.g rfl rfl fun Y Z => ?_; simp only [zb, simprocAttr, -Int.reduceNatCast', -Int.reduceToNat, e1, e6, e11, e12, e13, e18, e19, e20, h5, y1, y2, y3, y4, z1, List.length_map, tt]; refine Z _ _ ?_; clear Z Y)
        all_goals have q2q := J12 e1 e6 e11 e12 e13 e18 e19 e20 h5 y1 y2 (J4 y3 y4 z1 @List.length_map.{0,0})
        all_goals (refine S.g rfl rfl fun Y Z => ?_; simp only [zz, simprocAttr, -Int.reduceNatCast', -Int.reduceToNat, tt, q2q]; intro k1 hk1 <;> (refine Z _ _ ?_; clear Z Y))
        all_goals refine S.one q2q ?_
        all_goals refine S.nil ?_
        all_goals simp only [ze, simprocAttr, q2q]
        refine .inr ⟨k1, rfl, ?_⟩
        ·rw [List.map_append]
         exact Hp.eqs (fun _ => rfl) fun q => by by_cases h1 : q = k1 <;> by_cases h2 : q = kk <;> simp [h1, h2, Hp.setGr, Hp.empty, encU]
      ·have hk5 := hacc.kill
       rw [if_neg (by simpa using hc), List.append_nil]
       refine AW.skip ?_
       simp only [zs, simprocAttr, e1, e6, e11, e12, e13, e18, e19, e20]
       all_goals ((try and_intros) <;> first | rfl | assumption | (exact hacc))
     ·clear e1 e6 e11 e12 e13 e18 e19 e20 hacc s σ
      rintro s σ ⟨hacc, e1, e6, e11, e12, e13, e18, e19, e20⟩
      have hk5 := hacc.kill
      have q3q := J9 e1 e6 e11 e12 e13 e18 e19 e20 hw2
      refine AW.reg0 (S.rn q3q ?_)
      simp only [ze, simprocAttr, q3q]
      refine ⟨m2 - 1, by omega, j + 1, _, by omega, ?_, hp, ?_⟩
      ·all_goals ((try and_intros) <;> first | rfl | assumption | (exact hacc))
      ·all_goals ((try and_intros) <;> first | rfl | assumption | (rfl))
    ·have hj := of_decide_eq_false hj
     rw [List.drop_of_length_le (by omega)] at hp
     refine AW.exit ?_
     refine ⟨acc, ?_, hp, ?_⟩
     ·simp only [zs, simprocAttr]
      exact hacc
     ·simp only [zs, simprocAttr, e1, e11, e12, e13]
      all_goals ((try and_intros) <;> first | rfl | assumption | (rfl))
   ·clear e1 e11 e12 e13 hp hacc hk5 acc s σ
    rintro s σ ⟨acc, hacc, hp, e1, e11, e12, e13⟩
    have q4q := J5 e1 e11 e12 e13 hw
    refine AW.reg0 (S.rn q4q ?_)
    simp only [ze, simprocAttr, q4q]
    refine ⟨m - 1, by omega, k + 1, acc, by omega, ?_, hp, ?_⟩
    ·all_goals ((try and_intros) <;> first | rfl | assumption | (exact hacc))
    ·all_goals ((try and_intros) <;> first | rfl | assumption | (rfl))
  ·have hk := of_decide_eq_false hk
   rw [List.drop_of_length_le (by omega), usesAll, List.append_nil] at hp
   refine AW.exit ?_
   simp only [zs, simprocAttr]
   rw [hp]; exact hacc
 rintro s σ hacc
 rcases hacc with ⟨h5, h0, rfl⟩ | ⟨kk, h5, rfl⟩
 ·refine AW.sr h5 ?_
  refine AW.ret ?_
  simp only [zs, simprocAttr]
  rw [h0]; rfl
 ·refine AW.freeze (k := kk) (T := (53, 2)) (es := (usesAll i 0 x.from_).map encU) (by simp) ?_
  rw [Hp.set_none (by rfl)]
  refine AW.sr (J10 @St.fz_t @St.fz_l @fzV.eq_1 @fzV.eq_2 @fz1.eq_1 @fz1.eq_2 @Option.map_some.{0,0} @List.map.eq_1.{0,0} @List.map.eq_2.{0,0} h5) ?_
  refine AW.ret ?_
  simp only [zs, simprocAttr]
  all_goals ((try and_intros) <;> first | rfl | assumption | (rfl))
def badF (term : Bool) (i : Int) (f : Int) : Bool := (term && f != -1) || (!term && (decide (f < 0) || decide (f ≥ i)))
theorem bad_spec (term : Bool) (i f : Int) : PCalls Tryz.prog 50 [.c (.int .i64 f), capZ [.c (.bool term)], capZ [.c (.int .i64 i)]] (fun v => v = .c (.bool (badF term i f))) := by
 refine PCalls.intro Tryz.call50 Tryz.func50 rfl Tryz.ntmps50 Tryz.results50 (by simp) ?_
 refine AW.sr @capZ.eq_1 ?_
 refine AW.seq_j (fun s' σ' => σ' = Hp.empty ∧ s'.t 4 = .c (.bool (badF term i f))) ?_ ?_
 ·cases term
  all_goals refine AW.reg0 ?_
  all_goals iterate 3 refine S.one @capZ.eq_1 ?_
  all_goals (first | (refine S.sp @capZ.eq_1 fun b a8 => ?_; cases b <;> (try exact nope a8)) | ((first | refine S.x rfl rfl rfl rfl fun Y Z => ?_ | refine S.u rfl rfl rfl rfl fun Y Z => ?_); simp only [ze, simprocAttr, -Int.reduceNatCast', -Int.reduceToNat]; refine Z _ _ ?_; clear Z Y))
  all_goals iterate 6 refine S.one @capZ.eq_1 ?_
  all_goals (first | (refine S.sp @capZ.eq_1 fun b a15 => ?_; cases b <;> (try exact nope a15)) | ((first | refine S.x rfl rfl rfl rfl fun Y Z => ?_ | refine S.u rfl rfl rfl rfl fun Y Z => ?_); simp only [ze, simprocAttr, -Int.reduceNatCast', -Int.reduceToNat]; refine Z _ _ ?_; clear Z Y))
  all_goals iterate 8 refine S.one @capZ.eq_1 ?_
  all_goals refine S.nil ?_
  all_goals simp only [ze, simprocAttr, capZ]
  all_goals first | (simp_all [badF]; done) | (simp_all [badF] <;> (intros; first | omega | (simp_all; done) | (simp_all; omega)))
 rintro s σ ⟨rfl, e4⟩
 refine AW.ret ?_
 all_goals simp only [zs, simprocAttr, e4]
 all_goals ((try and_intros) <;> first | rfl | assumption | (rfl))
def opBad (x : Pln) (w0 : Int) (i : Nat) (o : OpS) (f : List Int) : Bool :=
  (opErr o != 0) || ((o.ins != (f.length : Nat)) || ((o.win != w0) || (f.any (badF (o.kind == 1) (i : Nat)) || (((o.kind == 5) != ((i : Int) == (x.ops.length : Nat) - 1)) || (!((i : Int) == (x.ops.length : Nat) - 1) && ((((usesAll (i : Nat) 0 x.from_).length : Int) == 0) || decide (((usesAll (i : Nat) 0 x.from_).length : Int) > 64)))))))
def winOf (x : Pln) : Int := match x.ops[0]? with | some o => o.win | none => 0
def badAt (x : Pln) (i : Nat) : Bool := match x.ops[i]?, x.from_[i]? with
  | some o, some f => opBad x (winOf x) i o f
  | _, _ => false
def cntBad (x : Pln) : Bool := decide ((x.ops.length : Int) < 2) || (decide ((x.ops.length : Int) > 32) || ((x.from_.length : Int) != (x.ops.length : Int)))
def planErr (x : Pln) : Int := if cntBad x then 150 else if (List.range x.ops.length).any (badAt x) then 150 else 0
structure okPlN (x : Pln) : Prop where
  op : ∀ o ∈ x.ops, okOpN o
  small : smallPl x
theorem planCheck_spec (x : Pln) (hx : okPlN x) : PCalls Tryz.prog 14 [.agg (encPl x)] (fun v => v = .c (.int .i64 (planErr x))) := by
 obtain ⟨hs1, hs2, hs3⟩ := hx.small
 refine PCalls.intro Tryz.call14 Tryz.func14 rfl Tryz.ntmps14 Tryz.results14 (by simp) ?_
 refine AW.sr @encPl.eq_1 ?_
 refine AW.sr @List.length_map.{0,0} ?_
 refine AW.seq_j (fun s' σ' => σ' = Hp.empty ∧ cntBad x = false ∧ s'.t 1 = .lp 1 0 ∧ s'.l 1 = some [.sl (x.ops.map encOp), .sl (x.from_.map encF)] ∧ s'.t 3 = .c (.int .i64 (x.ops.length : Nat))) ?_ ?_
 ·refine AW.seq_j (fun s' σ' => σ' = Hp.empty ∧ s'.t 25 = .c (.bool (cntBad x)) ∧ s'.t 1 = .lp 1 0 ∧ s'.l 1 = some [.sl (x.ops.map encOp), .sl (x.from_.map encF)] ∧ s'.t 3 = .c (.int .i64 (x.ops.length : Nat))) ?_ ?_
  ·skip
   refine AW.reg0 ?_
   refine S.one @List.length_map.{0,0} ?_
   (refine S.sp @List.length_map.{0,0} fun b a14 => ?_; cases b <;> (try exact nope a14))
   all_goals iterate 2 refine S.one @List.length_map.{0,0} ?_
   all_goals (first | (refine S.sp @List.length_map.{0,0} fun b a17 => ?_; cases b <;> (try exact nope a17)) | ((first | refine S.x rfl rfl rfl rfl fun Y Z => ?_ | refine S.u rfl rfl rfl rfl fun Y Z => ?_); simp only [ze, simprocAttr, -Int.reduceNatCast', -Int.reduceToNat]; refine Z _ _ ?_; clear Z Y))
   all_goals iterate 8 refine S.one @List.length_map.{0,0} ?_
   all_goals refine S.nil ?_
   all_goals simp only [ze, simprocAttr, List.length_map]
   all_goals
   unfold cntBad
   first
    | (have b1 := of_decide_eq_false a14; have b2 := of_decide_eq_false a17; rw [decide_eq_false b1, decide_eq_false b2]; rfl)
    | (have b1 := of_decide_eq_false a14; have b2 := of_decide_eq_true a17; rw [decide_eq_false b1, decide_eq_true b2]; rfl)
    | (have b1 := of_decide_eq_true a14; rw [decide_eq_true b1]; rfl)
  rintro s σ ⟨rfl, e25, e1, l1, e3⟩
  refine AW.cond (b := cntBad x) e25 (fun hb => ?_) (fun hb => ?_)
  ·refine AW.sr trivial ?_
   refine AW.ret ?_
   simp only [zs, simprocAttr]
   rw [planErr, if_pos hb]
  ·refine AW.skip ?_
   exact ⟨rfl, hb, e1, l1, e3⟩
 rintro s σ ⟨rfl, hcb, e1, l1, e3⟩
 have hn : 2 ≤ x.ops.length ∧ x.ops.length ≤ 32 ∧ x.from_.length = x.ops.length := by
  simp only [cntBad, Bool.or_eq_false_iff, decide_eq_false_iff_not, bne_eq_false_iff_eq] at hcb
  omega
 obtain ⟨hn1, hn2, hn3⟩ := hn
 have hpe : planErr x = if (List.range x.ops.length).any (badAt x) then 150 else 0 := by rw [planErr, hcb, if_neg Bool.false_ne_true]
 refine AW.seq_k fun K4 h4 => ?_
 all_goals refine AW.sr (J4 e1 l1 e3 @List.length_map.{0,0}) ?_
 refine AW.block ?_   -- 0
 refine AW.loop (fun m s' σ' => σ' = Hp.empty ∧ ∃ i : Nat, m + i = x.ops.length ∧ (∀ j < i, badAt x j = false) ∧ s'.t 1 = .lp 1 0 ∧ s'.l 1 = some [.sl (x.ops.map encOp), .sl (x.from_.map encF)] ∧ s'.t 3 = .c (.int .i64 (x.ops.length : Nat)) ∧ s'.t 27 = .sl (x.ops.map encOp) ∧ s'.t 28 = .c (.int .i64 (x.ops.length : Nat)) ∧ s'.t 29 = .c (.int .i64 (i : Nat))) x.ops.length ?_ ?_
 ·refine ⟨rfl, 0, by simp, fun j h => absurd h (Nat.not_lt_zero j), ?_⟩
  simp only [zs, simprocAttr, e1, l1, e3]
  all_goals ((try and_intros) <;> first | rfl | assumption | (rfl))
 clear e1 l1 e3 s
 rintro m s σ ⟨rfl, i, hm, hb, e1, l1, e3, e27, e28, e29⟩
 all_goals refine AW.sr (J2 e28 e29) ?_
 refine AW.seq_k fun K7 h7 => ?_
 refine AW.cond (b := decide (i < x.ops.length)) (by simp [ev]) (fun hi => ?_) (fun hi => ?_)
 ·have hi := of_decide_eq_true hi
  have hi2 : i < x.from_.length := by omega
  have h0 : 0 < x.ops.length := by omega
  have hw := wadd1 (a := i) (by omega)
  have hg := getD_map (f := encOp) hi
  have hg2 := getD_map (f := encF) hi2
  have hg0 := getD_map (f := encOp) h0
  have hom : x.ops[i] ∈ x.ops := List.getElem_mem hi
  have hfm : x.from_[i] ∈ x.from_ := List.getElem_mem hi2
  have hw0 : winOf x = x.ops[0].win := by rw [winOf, List.getElem?_eq_getElem h0]
  have hba : badAt x i = opBad x (x.ops[0].win) i x.ops[i] x.from_[i] := by rw [badAt, List.getElem?_eq_getElem hi, List.getElem?_eq_getElem hi2, ← hw0]
  generalize x.ops[i] = o at hg hom hba
  generalize x.from_[i] = f at hg2 hfm hba
  generalize x.ops[0] = o0 at hg0 hba
  have hfl := len_sum hfm
  have hal := usesAll_len (i : Nat) x.from_ 0
  refine AW.skip ?_
  all_goals simp only [zs, simprocAttr]
  all_goals apply_assumption
  refine AW.seq_j (fun s' σ' => σ' = Hp.empty ∧ badAt x i = false ∧ s'.t 1 = .lp 1 0 ∧ s'.l 1 = some [.sl (x.ops.map encOp), .sl (x.from_.map encF)] ∧ s'.t 3 = .c (.int .i64 (x.ops.length : Nat)) ∧ s'.t 27 = .sl (x.ops.map encOp) ∧ s'.t 28 = .c (.int .i64 (x.ops.length : Nat)) ∧ s'.t 29 = .c (.int .i64 (i : Nat))) ?_ ?_
  ·refine AW.block ?_   -- 1
   refine AW.sr (J10 e1 l1 e3 e27 e28 e29 hi hg @encOp.eq_1 @List.length_map.{0,0}) ?_
   refine AW.seq_j (fun s' σ' => σ' = Hp.empty ∧ s'.t 1 = .lp 1 0 ∧ s'.l 1 = some [.sl (x.ops.map encOp), .sl (x.from_.map encF)] ∧ s'.t 3 = .c (.int .i64 (x.ops.length : Nat)) ∧ s'.t 27 = .sl (x.ops.map encOp) ∧ s'.t 28 = .c (.int .i64 (x.ops.length : Nat)) ∧ s'.t 29 = .c (.int .i64 (i : Nat)) ∧
    s'.t 4 = .lp 4 0 ∧ s'.l 4 = some [.c (.int .i64 (i : Nat))] ∧ s'.t 5 = .lp 5 0 ∧ s'.l 5 = some (encOp o) ∧ s'.t 6 = .lp 6 0 ∧ s'.l 6 = some [.c (.bool (o.kind == 1))]) ?_ ?_
   ·skip
    refine AW.reg0 (S.rn (J6 e1 l1 e3 e27 e28 e29) ?_)
    simp only [ze, simprocAttr, e1, l1, e3, e27, e28, e29]
    all_goals ((try and_intros) <;> first | rfl | assumption | (rfl))
   clear e1 l1 e3 e27 e28 e29 s
   rintro s σ ⟨rfl, e1, l1, e3, e27, e28, e29, e4, l4, e5, l5, e6, l6⟩
   refine AW.hushBox l4 (by simp) ?_
   refine AW.hushBox (d := 6) (cells := [.c (.bool (o.kind == 1))]) (by simp [l6]) (by simp) ?_
   refine AW.st (fun s' => s'.t 1 = .lp 1 0 ∧ s'.l 1 = some [.sl (x.ops.map encOp), .sl (x.from_.map encF)] ∧ s'.t 3 = .c (.int .i64 (x.ops.length : Nat)) ∧ s'.t 27 = .sl (x.ops.map encOp) ∧ s'.t 28 = .c (.int .i64 (x.ops.length : Nat)) ∧ s'.t 29 = .c (.int .i64 (i : Nat)) ∧
    s'.t 4 = capZ [.c (.int .i64 (i : Nat))] ∧ s'.t 5 = .lp 5 0 ∧ s'.l 5 = some (encOp o) ∧ s'.t 6 = capZ [.c (.bool (o.kind == 1))]) ?_ ?_
   ·refine ⟨?_, ?_, ?_, ?_, ?_, ?_, ?_, ?_, ?_, ?_⟩ <;> simp [e1, l1, e3, e27, e28, e29, e4, e5, l5, e6, bxV, capZ]
   clear e1 l1 e3 e27 e28 e29 e4 l4 e5 l5 e6 l6 s
   rintro s ⟨e1, l1, e3, e27, e28, e29, e4, e5, l5, e6⟩
   refine AW.sr (J11 e1 l1 e3 e27 e28 e29 e4 e5 l5 e6 @capZ_ok) ?_
   have hsub : IntKind.i64.wrap ((x.ops.length : Int) - 1) = (x.ops.length : Int) - 1 := wrap_small _ (by omega) (by omega)
   refine AW.sr (J12 e1 l1 e3 e27 e28 e29 e4 e5 l5 e6 @capZ.eq_1 hsub) ?_
   refine AW.seq_k fun K11 h11 => ?_
   refine AW.reg0 ?_
   iterate 2 refine S.one (J12 e1 l1 e3 e27 e28 e29 e4 e5 l5 e6 @capZ.eq_1 @List.length_map.{0,0}) ?_
   (refine S.g rfl rfl fun Y Z => ?_; simp only [zz, simprocAttr, -Int.reduceNatCast', -Int.reduceToNat, e1, l1, e3, e27, e28, e29, e4, e5, l5, e6, capZ, List.length_map]; refine PCalls.eqto (uses_spec x hx.small i) ?_ <;> (refine Z _ _ ?_; clear Z Y))
   all_goals iterate 2 refine S.one (J12 e1 l1 e3 e27 e28 e29 e4 e5 l5 e6 @capZ.eq_1 @List.length_map.{0,0}) ?_
   all_goals (refine S.nil ?_; simp only [ze, simprocAttr, e1, l1, e3, e27, e28, e29, e4, e5, l5, e6, capZ, List.length_map]; apply_assumption)
   refine AW.st (fun s' => s'.t 1 = .lp 1 0 ∧ s'.l 1 = some [.sl (x.ops.map encOp), .sl (x.from_.map encF)] ∧ s'.t 3 = .c (.int .i64 (x.ops.length : Nat)) ∧ s'.t 27 = .sl (x.ops.map encOp) ∧ s'.t 28 = .c (.int .i64 (x.ops.length : Nat)) ∧ s'.t 29 = .c (.int .i64 (i : Nat)) ∧
    s'.t 4 = capZ [.c (.int .i64 (i : Nat))] ∧ s'.t 5 = .lp 5 0 ∧ s'.l 5 = some (encOp o) ∧ s'.t 7 = .fn (.func 50) [] [capZ [.c (.bool (o.kind == 1))], capZ [.c (.int .i64 (i : Nat))]] ∧ s'.t 8 = .c (.bool ((i : Int) == (x.ops.length : Nat) - 1)) ∧ s'.t 9 = .c (.int .i64 ((usesAll (i : Nat) 0 x.from_).length : Nat))) ?_ ?_
   ·simp only [zs, simprocAttr, e1, l1, e3, e27, e28, e29, e4, e5, l5, e6]
    all_goals ((try and_intros) <;> first | rfl | assumption | (rfl))
   clear e1 l1 e3 e27 e28 e29 e4 e5 l5 e6 s
   rintro s ⟨e1, l1, e3, e27, e28, e29, e4, e5, l5, e7, e8, e9⟩
   refine AW.seq_j (fun s' σ' => σ' = Hp.empty ∧ s'.t 97 = .c (.bool (badAt x i)) ∧ s'.t 1 = .lp 1 0 ∧ s'.l 1 = some [.sl (x.ops.map encOp), .sl (x.from_.map encF)] ∧ s'.t 3 = .c (.int .i64 (x.ops.length : Nat)) ∧ s'.t 27 = .sl (x.ops.map encOp) ∧ s'.t 28 = .c (.int .i64 (x.ops.length : Nat)) ∧ s'.t 29 = .c (.int .i64 (i : Nat))) ?_ ?_
   ·have h0i : (0 : Int) < ((x.ops.length : Nat) : Int) := by omega
    have hei : ((x.ops.map encOp).getD 0 []) = encOp o0 := hg0
    unfold encOp at l5
    generalize hlast : ((i : Int) == (x.ops.length : Nat) - 1) = last at e8
    cases last
    all_goals refine AW.dT { sd := fun d => d == 1 || d == 5 } (.st 0 1 (.st 1 2 (.st 2 0 (.st 3 0 (.st 4 0 (.st 6 0 (.st 5 1 (.st 7 1 (.st 8 1 (.st 9 0 (.st 10 1 (.st 11 0 (.st 12 0 (.st 13 0 (.st 14 0 (.st 15 0 (.st 17 0 (.st 16 1 (.st 18 1 (.st 19 0 (.st 20 0 (.st 21 1 (.st 22 0 (.st 23 0 (.st 24 0 (.st 25 0 (.st 30 0 (.st 26 1 (.st 27 1 (.st 28 0 (.st 29 1 (.st 31 2 (.st 32 0 (.st 33 0 (.st 34 0 (.st 37 0 (.st 35 1 (.st 36 0 (.st 38 0 (.st 39 0 (.st 40 0 (.st 41 0 (.st 42 0 (.st 43 0 (.st 44 0 (.st 45 0 (.st 46 0 (.st 47 0 (.st 48 0 (.st 49 0 (.st 50 0 (.st 51 0 .nil)))))))))))))))))))))))))))))))))))))))))))))))))))) ?_
    all_goals refine T.onf (J12 @Bool.or_self @kill.eq_1 @kill.eq_2 e1 l1 e3 e27 e28 e29 e4 e5 (J12 l5 e7 e8 e9 @capZ.eq_1 hi hi2 hg hg2 hei h0 (J6 h0i @encOp.eq_1 @encF.eq_1 @Int.toNat_zero @Int.le_refl @List.length_map.{0,0}))) ?_
    all_goals (refine T.g rfl trivial rfl rfl fun Y Z => ?_; simp only [zz, simprocAttr, -Int.reduceNatCast', -Int.reduceToNat, Nat.reduceBEq, Bool.or_self, kill, e1, l1, e3, e27, e28, e29, e4, e5, l5, e7, e8, e9, capZ, hi, hi2, hg, hg2, hei, h0, h0i, encOp, encF, Int.toNat_zero, Int.le_refl, List.length_map]; refine PCalls.eqto (operCheck_spec o (hx.op o hom)) ?_ <;> (refine Z _ _ ?_; clear Z Y))
    all_goals (refine T.sq (J12 @Bool.or_self @kill.eq_1 @kill.eq_2 e1 l1 e3 e27 e28 e29 e4 e5 (J12 l5 e7 e8 e9 @capZ.eq_1 hi hi2 hg hg2 hei h0 (J6 h0i @encOp.eq_1 @encF.eq_1 @Int.toNat_zero @Int.le_refl @List.length_map.{0,0}))) fun b a48 => ?_; cases b <;> (try exact nope a48))
    all_goals refine T.onf (J12 @Bool.or_self @kill.eq_1 @kill.eq_2 e1 l1 e3 e27 e28 e29 e4 e5 (J12 l5 e7 e8 e9 @capZ.eq_1 hi hi2 hg hg2 hei h0 (J6 h0i @encOp.eq_1 @encF.eq_1 @Int.toNat_zero @Int.le_refl @List.length_map.{0,0}))) ?_
    all_goals iterate 2 (first | (refine T.y rfl trivial rfl rfl rfl rfl fun Y Z => ?_; simp only [zz, simprocAttr, -Int.reduceNatCast', -Int.reduceToNat, tt, Nat.reduceBEq, Bool.or_self, kill, e1, l1, e3, e27, e28, e29, e4, e5, l5, e7, e8, e9, capZ, hi, hi2, hg, hg2, hei, h0, h0i, encOp, encF, Int.toNat_zero, Int.le_refl, List.length_map]; refine Z _ _ ?_; clear Z Y) | ((first | refine T.x rfl (fun h => by cases h) rfl rfl rfl rfl fun Y Z => ?_ | refine T.u rfl (fun h => by cases h) rfl rfl rfl rfl fun Y Z => ?_); simp only [ze, simprocAttr, -Int.reduceNatCast', -Int.reduceToNat]; refine Z _ _ ?_; clear Z Y))
    all_goals iterate 3 (first | (refine T.y rfl (by first | rfl | (simp only [stC, ze, simprocAttr, -Int.reduceNatCast', -Int.reduceToNat, Nat.reduceBEq, Bool.or_self, kill, e1, l1, e3, e27, e28, e29, e4, e5, l5, e7, e8, e9, capZ, hi, hi2, hg, hg2, hei, h0, h0i, encOp, encF, Int.toNat_zero, Int.le_refl, List.length_map]; first | done | rfl)) rfl rfl rfl rfl fun Y Z => ?_; simp only [zz, simprocAttr, -Int.reduceNatCast', -Int.reduceToNat, tt, Nat.reduceBEq, Bool.or_self, kill, e1, l1, e3, e27, e28, e29, e4, e5, l5, e7, e8, e9, capZ, hi, hi2, hg, hg2, hei, h0, h0i, encOp, encF, Int.toNat_zero, Int.le_refl, List.length_map]; refine Z _ _ ?_; clear Z Y) | ((first | refine T.x rfl (fun _ => rfl) rfl rfl rfl rfl fun Y Z => ?_ | refine T.u rfl (fun _ => rfl) rfl rfl rfl rfl fun Y Z => ?_); simp only [ze, simprocAttr, -Int.reduceNatCast', -Int.reduceToNat]; refine Z _ _ ?_; clear Z Y))
    all_goals (first | (refine T.y rfl trivial rfl rfl rfl rfl fun Y Z => ?_; simp only [zz, simprocAttr, -Int.reduceNatCast', -Int.reduceToNat, tt, Nat.reduceBEq, Bool.or_self, kill, e1, l1, e3, e27, e28, e29, e4, e5, l5, e7, e8, e9, capZ, hi, hi2, hg, hg2, hei, h0, h0i, encOp, encF, Int.toNat_zero, Int.le_refl, List.length_map]; refine Z _ _ ?_; clear Z Y) | ((first | refine T.x rfl (fun h => by cases h) rfl rfl rfl rfl fun Y Z => ?_ | refine T.u rfl (fun h => by cases h) rfl rfl rfl rfl fun Y Z => ?_); simp only [ze, simprocAttr, -Int.reduceNatCast', -Int.reduceToNat]; refine Z _ _ ?_; clear Z Y))
    all_goals (first | (refine T.y rfl (by first | rfl | (simp only [stC, ze, simprocAttr, -Int.reduceNatCast', -Int.reduceToNat, Nat.reduceBEq, Bool.or_self, kill, e1, l1, e3, e27, e28, e29, e4, e5, l5, e7, e8, e9, capZ, hi, hi2, hg, hg2, hei, h0, h0i, encOp, encF, Int.toNat_zero, Int.le_refl, List.length_map]; first | done | rfl)) rfl rfl rfl rfl fun Y Z => ?_; simp only [zz, simprocAttr, -Int.reduceNatCast', -Int.reduceToNat, tt, Nat.reduceBEq, Bool.or_self, kill, e1, l1, e3, e27, e28, e29, e4, e5, l5, e7, e8, e9, capZ, hi, hi2, hg, hg2, hei, h0, h0i, encOp, encF, Int.toNat_zero, Int.le_refl, List.length_map]; refine Z _ _ ?_; clear Z Y) | ((first | refine T.x rfl (fun _ => rfl) rfl rfl rfl rfl fun Y Z => ?_ | refine T.u rfl (fun _ => rfl) rfl rfl rfl rfl fun Y Z => ?_); simp only [ze, simprocAttr, -Int.reduceNatCast', -Int.reduceToNat]; refine Z _ _ ?_; clear Z Y))
    all_goals (first | (refine T.y rfl trivial rfl rfl rfl rfl fun Y Z => ?_; simp only [zz, simprocAttr, -Int.reduceNatCast', -Int.reduceToNat, tt, Nat.reduceBEq, Bool.or_self, kill, e1, l1, e3, e27, e28, e29, e4, e5, l5, e7, e8, e9, capZ, hi, hi2, hg, hg2, hei, h0, h0i, encOp, encF, Int.toNat_zero, Int.le_refl, List.length_map]; refine Z _ _ ?_; clear Z Y) | ((first | refine T.x rfl (fun h => by cases h) rfl rfl rfl rfl fun Y Z => ?_ | refine T.u rfl (fun h => by cases h) rfl rfl rfl rfl fun Y Z => ?_); simp only [ze, simprocAttr, -Int.reduceNatCast', -Int.reduceToNat]; refine Z _ _ ?_; clear Z Y))
    all_goals (first | (refine T.sq (J12 @Bool.or_self @kill.eq_1 @kill.eq_2 e1 l1 e3 e27 e28 e29 e4 e5 (J12 l5 e7 e8 e9 @capZ.eq_1 hi hi2 hg hg2 hei h0 (J6 h0i @encOp.eq_1 @encF.eq_1 @Int.toNat_zero @Int.le_refl @List.length_map.{0,0}))) fun b a58 => ?_; cases b <;> (try exact nope a58)) | ((first | refine T.x rfl (fun h => by cases h) rfl rfl rfl rfl fun Y Z => ?_ | refine T.u rfl (fun h => by cases h) rfl rfl rfl rfl fun Y Z => ?_); simp only [ze, simprocAttr, -Int.reduceNatCast', -Int.reduceToNat]; refine Z _ _ ?_; clear Z Y))
    all_goals iterate 2 refine T.onf (J12 @Bool.or_self @kill.eq_1 @kill.eq_2 e1 l1 e3 e27 e28 e29 e4 e5 (J12 l5 e7 e8 e9 @capZ.eq_1 hi hi2 hg hg2 hei h0 (J6 h0i @encOp.eq_1 @encF.eq_1 @Int.toNat_zero @Int.le_refl @List.length_map.{0,0}))) ?_
    all_goals iterate 2 (first | (refine T.y rfl trivial rfl rfl rfl rfl fun Y Z => ?_; simp only [zz, simprocAttr, -Int.reduceNatCast', -Int.reduceToNat, tt, Nat.reduceBEq, Bool.or_self, kill, e1, l1, e3, e27, e28, e29, e4, e5, l5, e7, e8, e9, capZ, hi, hi2, hg, hg2, hei, h0, h0i, encOp, encF, Int.toNat_zero, Int.le_refl, List.length_map]; refine Z _ _ ?_; clear Z Y) | ((first | refine T.x rfl (fun h => by cases h) rfl rfl rfl rfl fun Y Z => ?_ | refine T.u rfl (fun h => by cases h) rfl rfl rfl rfl fun Y Z => ?_); simp only [ze, simprocAttr, -Int.reduceNatCast', -Int.reduceToNat]; refine Z _ _ ?_; clear Z Y))
    all_goals iterate 2 (first | (refine T.y rfl (by first | rfl | (simp only [stC, ze, simprocAttr, -Int.reduceNatCast', -Int.reduceToNat, Nat.reduceBEq, Bool.or_self, kill, e1, l1, e3, e27, e28, e29, e4, e5, l5, e7, e8, e9, capZ, hi, hi2, hg, hg2, hei, h0, h0i, encOp, encF, Int.toNat_zero, Int.le_refl, List.length_map]; first | done | rfl)) rfl rfl rfl rfl fun Y Z => ?_; simp only [zz, simprocAttr, -Int.reduceNatCast', -Int.reduceToNat, tt, Nat.reduceBEq, Bool.or_self, kill, e1, l1, e3, e27, e28, e29, e4, e5, l5, e7, e8, e9, capZ, hi, hi2, hg, hg2, hei, h0, h0i, encOp, encF, Int.toNat_zero, Int.le_refl, List.length_map]; refine Z _ _ ?_; clear Z Y) | ((first | refine T.x rfl (fun _ => rfl) rfl rfl rfl rfl fun Y Z => ?_ | refine T.u rfl (fun _ => rfl) rfl rfl rfl rfl fun Y Z => ?_); simp only [ze, simprocAttr, -Int.reduceNatCast', -Int.reduceToNat]; refine Z _ _ ?_; clear Z Y))
    all_goals iterate 2 (first | (refine T.y rfl trivial rfl rfl rfl rfl fun Y Z => ?_; simp only [zz, simprocAttr, -Int.reduceNatCast', -Int.reduceToNat, tt, Nat.reduceBEq, Bool.or_self, kill, e1, l1, e3, e27, e28, e29, e4, e5, l5, e7, e8, e9, capZ, hi, hi2, hg, hg2, hei, h0, h0i, encOp, encF, Int.toNat_zero, Int.le_refl, List.length_map]; refine Z _ _ ?_; clear Z Y) | ((first | refine T.x rfl (fun h => by cases h) rfl rfl rfl rfl fun Y Z => ?_ | refine T.u rfl (fun h => by cases h) rfl rfl rfl rfl fun Y Z => ?_); simp only [ze, simprocAttr, -Int.reduceNatCast', -Int.reduceToNat]; refine Z _ _ ?_; clear Z Y))
    all_goals (first | (refine T.y rfl (by first | rfl | (simp only [stC, ze, simprocAttr, -Int.reduceNatCast', -Int.reduceToNat, Nat.reduceBEq, Bool.or_self, kill, e1, l1, e3, e27, e28, e29, e4, e5, l5, e7, e8, e9, capZ, hi, hi2, hg, hg2, hei, h0, h0i, encOp, encF, Int.toNat_zero, Int.le_refl, List.length_map]; first | done | rfl)) rfl rfl rfl rfl fun Y Z => ?_; simp only [zz, simprocAttr, -Int.reduceNatCast', -Int.reduceToNat, tt, Nat.reduceBEq, Bool.or_self, kill, e1, l1, e3, e27, e28, e29, e4, e5, l5, e7, e8, e9, capZ, hi, hi2, hg, hg2, hei, h0, h0i, encOp, encF, Int.toNat_zero, Int.le_refl, List.length_map]; refine Z _ _ ?_; clear Z Y) | ((first | refine T.x rfl (fun _ => rfl) rfl rfl rfl rfl fun Y Z => ?_ | refine T.u rfl (fun _ => rfl) rfl rfl rfl rfl fun Y Z => ?_); simp only [ze, simprocAttr, -Int.reduceNatCast', -Int.reduceToNat]; refine Z _ _ ?_; clear Z Y))
    all_goals (first | (refine T.sq (J12 @Bool.or_self @kill.eq_1 @kill.eq_2 e1 l1 e3 e27 e28 e29 e4 e5 (J12 l5 e7 e8 e9 @capZ.eq_1 hi hi2 hg hg2 hei h0 (J6 h0i @encOp.eq_1 @encF.eq_1 @Int.toNat_zero @Int.le_refl @List.length_map.{0,0}))) fun b a68 => ?_; cases b <;> (try exact nope a68)) | ((first | refine T.x rfl (fun h => by cases h) rfl rfl rfl rfl fun Y Z => ?_ | refine T.u rfl (fun h => by cases h) rfl rfl rfl rfl fun Y Z => ?_); simp only [ze, simprocAttr, -Int.reduceNatCast', -Int.reduceToNat]; refine Z _ _ ?_; clear Z Y))
    all_goals iterate 2 refine T.onf (J12 @Bool.or_self @kill.eq_1 @kill.eq_2 e1 l1 e3 e27 e28 e29 e4 e5 (J12 l5 e7 e8 e9 @capZ.eq_1 hi hi2 hg hg2 hei h0 (J6 h0i @encOp.eq_1 @encF.eq_1 @Int.toNat_zero @Int.le_refl @List.length_map.{0,0}))) ?_
    all_goals iterate 2 (first | (refine T.y rfl trivial rfl rfl rfl rfl fun Y Z => ?_; simp only [zz, simprocAttr, -Int.reduceNatCast', -Int.reduceToNat, tt, Nat.reduceBEq, Bool.or_self, kill, e1, l1, e3, e27, e28, e29, e4, e5, l5, e7, e8, e9, capZ, hi, hi2, hg, hg2, hei, h0, h0i, encOp, encF, Int.toNat_zero, Int.le_refl, List.length_map]; refine Z _ _ ?_; clear Z Y) | ((first | refine T.x rfl (fun h => by cases h) rfl rfl rfl rfl fun Y Z => ?_ | refine T.u rfl (fun h => by cases h) rfl rfl rfl rfl fun Y Z => ?_); simp only [ze, simprocAttr, -Int.reduceNatCast', -Int.reduceToNat]; refine Z _ _ ?_; clear Z Y))
    all_goals iterate 2 (first | (refine T.y rfl (by first | rfl | (simp only [stC, ze, simprocAttr, -Int.reduceNatCast', -Int.reduceToNat, Nat.reduceBEq, Bool.or_self, kill, e1, l1, e3, e27, e28, e29, e4, e5, l5, e7, e8, e9, capZ, hi, hi2, hg, hg2, hei, h0, h0i, encOp, encF, Int.toNat_zero, Int.le_refl, List.length_map]; first | done | rfl)) rfl rfl rfl rfl fun Y Z => ?_; simp only [zz, simprocAttr, -Int.reduceNatCast', -Int.reduceToNat, tt, Nat.reduceBEq, Bool.or_self, kill, e1, l1, e3, e27, e28, e29, e4, e5, l5, e7, e8, e9, capZ, hi, hi2, hg, hg2, hei, h0, h0i, encOp, encF, Int.toNat_zero, Int.le_refl, List.length_map]; refine Z _ _ ?_; clear Z Y) | ((first | refine T.x rfl (fun _ => rfl) rfl rfl rfl rfl fun Y Z => ?_ | refine T.u rfl (fun _ => rfl) rfl rfl rfl rfl fun Y Z => ?_); simp only [ze, simprocAttr, -Int.reduceNatCast', -Int.reduceToNat]; refine Z _ _ ?_; clear Z Y))
    all_goals (first | (refine T.y rfl trivial rfl rfl rfl rfl fun Y Z => ?_; simp only [zz, simprocAttr, -Int.reduceNatCast', -Int.reduceToNat, tt, Nat.reduceBEq, Bool.or_self, kill, e1, l1, e3, e27, e28, e29, e4, e5, l5, e7, e8, e9, capZ, hi, hi2, hg, hg2, hei, h0, h0i, encOp, encF, Int.toNat_zero, Int.le_refl, List.length_map]; refine Z _ _ ?_; clear Z Y) | ((first | refine T.x rfl (fun h => by cases h) rfl rfl rfl rfl fun Y Z => ?_ | refine T.u rfl (fun h => by cases h) rfl rfl rfl rfl fun Y Z => ?_); simp only [ze, simprocAttr, -Int.reduceNatCast', -Int.reduceToNat]; refine Z _ _ ?_; clear Z Y))
    all_goals (first | (refine T.y rfl (by first | rfl | (simp only [stC, ze, simprocAttr, -Int.reduceNatCast', -Int.reduceToNat, Nat.reduceBEq, Bool.or_self, kill, e1, l1, e3, e27, e28, e29, e4, e5, l5, e7, e8, e9, capZ, hi, hi2, hg, hg2, hei, h0, h0i, encOp, encF, Int.toNat_zero, Int.le_refl, List.length_map]; first | done | rfl)) rfl rfl rfl rfl fun Y Z => ?_; simp only [zz, simprocAttr, -Int.reduceNatCast', -Int.reduceToNat, tt, Nat.reduceBEq, Bool.or_self, kill, e1, l1, e3, e27, e28, e29, e4, e5, l5, e7, e8, e9, capZ, hi, hi2, hg, hg2, hei, h0, h0i, encOp, encF, Int.toNat_zero, Int.le_refl, List.length_map]; refine Z _ _ ?_; clear Z Y) | ((first | refine T.x rfl (fun _ => rfl) rfl rfl rfl rfl fun Y Z => ?_ | refine T.u rfl (fun _ => rfl) rfl rfl rfl rfl fun Y Z => ?_); simp only [ze, simprocAttr, -Int.reduceNatCast', -Int.reduceToNat]; refine Z _ _ ?_; clear Z Y))
    all_goals (first | (refine T.y rfl trivial rfl rfl rfl rfl fun Y Z => ?_; simp only [zz, simprocAttr, -Int.reduceNatCast', -Int.reduceToNat, Nat.reduceBEq, Bool.or_self, kill, e1, l1, e3, e27, e28, e29, e4, e5, l5, e7, e8, e9, capZ, hi, hi2, hg, hg2, hei, h0, h0i, encOp, encF, Int.toNat_zero, Int.le_refl, List.length_map]; refine PCalls.eqto (anyI_spec (p := badF (o.kind == 1) (i : Nat)) f (by omega) rfl rfl rfl rfl (bad_spec _ _)) ?_; refine S.bool fun b a77 => ?_; cases b <;> (try exact nope a77) <;> (refine Z _ _ ?_; clear Z Y)) | ((first | refine T.x rfl (fun h => by cases h) rfl rfl rfl rfl fun Y Z => ?_ | refine T.u rfl (fun h => by cases h) rfl rfl rfl rfl fun Y Z => ?_); simp only [ze, simprocAttr, -Int.reduceNatCast', -Int.reduceToNat]; refine Z _ _ ?_; clear Z Y))
    all_goals iterate 2 refine T.onf (J12 @Bool.or_self @kill.eq_1 @kill.eq_2 e1 l1 e3 e27 e28 e29 e4 e5 (J12 l5 e7 e8 e9 @capZ.eq_1 hi hi2 hg hg2 hei h0 (J6 h0i @encOp.eq_1 @encF.eq_1 @Int.toNat_zero @Int.le_refl @List.length_map.{0,0}))) ?_
    all_goals iterate 2 (first | (refine T.y rfl trivial rfl rfl rfl rfl fun Y Z => ?_; simp only [zz, simprocAttr, -Int.reduceNatCast', -Int.reduceToNat, tt, Nat.reduceBEq, Bool.or_self, kill, e1, l1, e3, e27, e28, e29, e4, e5, l5, e7, e8, e9, capZ, hi, hi2, hg, hg2, hei, h0, h0i, encOp, encF, Int.toNat_zero, Int.le_refl, List.length_map]; refine Z _ _ ?_; clear Z Y) | ((first | refine T.x rfl (fun h => by cases h) rfl rfl rfl rfl fun Y Z => ?_ | refine T.u rfl (fun h => by cases h) rfl rfl rfl rfl fun Y Z => ?_); simp only [ze, simprocAttr, -Int.reduceNatCast', -Int.reduceToNat]; refine Z _ _ ?_; clear Z Y))
    all_goals (first | (refine T.y rfl (by first | rfl | (simp only [stC, ze, simprocAttr, -Int.reduceNatCast', -Int.reduceToNat, Nat.reduceBEq, Bool.or_self, kill, e1, l1, e3, e27, e28, e29, e4, e5, l5, e7, e8, e9, capZ, hi, hi2, hg, hg2, hei, h0, h0i, encOp, encF, Int.toNat_zero, Int.le_refl, List.length_map]; first | done | rfl)) rfl rfl rfl rfl fun Y Z => ?_; simp only [zz, simprocAttr, -Int.reduceNatCast', -Int.reduceToNat, tt, Nat.reduceBEq, Bool.or_self, kill, e1, l1, e3, e27, e28, e29, e4, e5, l5, e7, e8, e9, capZ, hi, hi2, hg, hg2, hei, h0, h0i, encOp, encF, Int.toNat_zero, Int.le_refl, List.length_map]; refine Z _ _ ?_; clear Z Y) | ((first | refine T.x rfl (fun _ => rfl) rfl rfl rfl rfl fun Y Z => ?_ | refine T.u rfl (fun _ => rfl) rfl rfl rfl rfl fun Y Z => ?_); simp only [ze, simprocAttr, -Int.reduceNatCast', -Int.reduceToNat]; refine Z _ _ ?_; clear Z Y))
    all_goals (first | (refine T.y rfl trivial rfl rfl rfl rfl fun Y Z => ?_; simp only [zz, simprocAttr, -Int.reduceNatCast', -Int.reduceToNat, Nat.reduceBEq, Bool.or_self, kill, e1, l1, e3, e27, e28, e29, e4, e5, l5, e7, e8, e9, capZ, hi, hi2, hg, hg2, hei, h0, h0i, encOp, encF, Int.toNat_zero, Int.le_refl, List.length_map]; refine Z _ _ ?_; clear Z Y) | ((first | refine T.x rfl (fun h => by cases h) rfl rfl rfl rfl fun Y Z => ?_ | refine T.u rfl (fun h => by cases h) rfl rfl rfl rfl fun Y Z => ?_); simp only [ze, simprocAttr, -Int.reduceNatCast', -Int.reduceToNat]; refine Z _ _ ?_; clear Z Y))
    all_goals (first | (refine T.sq (J12 @Bool.or_self @kill.eq_1 @kill.eq_2 e1 l1 e3 e27 e28 e29 e4 e5 (J12 l5 e7 e8 e9 @capZ.eq_1 hi hi2 hg hg2 hei h0 (J6 h0i @encOp.eq_1 @encF.eq_1 @Int.toNat_zero @Int.le_refl @List.length_map.{0,0}))) fun b a84 => ?_; cases b <;> (try exact nope a84)) | ((first | refine T.x rfl (fun h => by cases h) rfl rfl rfl rfl fun Y Z => ?_ | refine T.u rfl (fun h => by cases h) rfl rfl rfl rfl fun Y Z => ?_); simp only [ze, simprocAttr, -Int.reduceNatCast', -Int.reduceToNat]; refine Z _ _ ?_; clear Z Y))
    all_goals iterate 2 refine T.onf (J12 @Bool.or_self @kill.eq_1 @kill.eq_2 e1 l1 e3 e27 e28 e29 e4 e5 (J12 l5 e7 e8 e9 @capZ.eq_1 hi hi2 hg hg2 hei h0 (J6 h0i @encOp.eq_1 @encF.eq_1 @Int.toNat_zero @Int.le_refl @List.length_map.{0,0}))) ?_
    all_goals iterate 4 (first | (refine T.y rfl trivial rfl rfl rfl rfl fun Y Z => ?_; simp only [zz, simprocAttr, -Int.reduceNatCast', -Int.reduceToNat, Nat.reduceBEq, Bool.or_self, kill, e1, l1, e3, e27, e28, e29, e4, e5, l5, e7, e8, e9, capZ, hi, hi2, hg, hg2, hei, h0, h0i, encOp, encF, Int.toNat_zero, Int.le_refl, List.length_map]; refine Z _ _ ?_; clear Z Y) | ((first | refine T.x rfl (fun h => by cases h) rfl rfl rfl rfl fun Y Z => ?_ | refine T.u rfl (fun h => by cases h) rfl rfl rfl rfl fun Y Z => ?_); simp only [ze, simprocAttr, -Int.reduceNatCast', -Int.reduceToNat]; refine Z _ _ ?_; clear Z Y))
    all_goals (first | (refine T.sq (J12 @Bool.or_self @kill.eq_1 @kill.eq_2 e1 l1 e3 e27 e28 e29 e4 e5 (J12 l5 e7 e8 e9 @capZ.eq_1 hi hi2 hg hg2 hei h0 (J6 h0i @encOp.eq_1 @encF.eq_1 @Int.toNat_zero @Int.le_refl @List.length_map.{0,0}))) fun b a91 => ?_; cases b <;> (try exact nope a91)) | ((first | refine T.x rfl (fun h => by cases h) rfl rfl rfl rfl fun Y Z => ?_ | refine T.u rfl (fun h => by cases h) rfl rfl rfl rfl fun Y Z => ?_); simp only [ze, simprocAttr, -Int.reduceNatCast', -Int.reduceToNat]; refine Z _ _ ?_; clear Z Y))
    all_goals iterate 5 (first | (refine T.y rfl trivial rfl rfl rfl rfl fun Y Z => ?_; simp only [zz, simprocAttr, -Int.reduceNatCast', -Int.reduceToNat, Nat.reduceBEq, Bool.or_self, kill, e1, l1, e3, e27, e28, e29, e4, e5, l5, e7, e8, e9, capZ, hi, hi2, hg, hg2, hei, h0, h0i, encOp, encF, Int.toNat_zero, Int.le_refl, List.length_map]; refine Z _ _ ?_; clear Z Y) | ((first | refine T.x rfl (fun h => by cases h) rfl rfl rfl rfl fun Y Z => ?_ | refine T.u rfl (fun h => by cases h) rfl rfl rfl rfl fun Y Z => ?_); simp only [ze, simprocAttr, -Int.reduceNatCast', -Int.reduceToNat]; refine Z _ _ ?_; clear Z Y))
    all_goals refine T.onf (J12 @Bool.or_self @kill.eq_1 @kill.eq_2 e1 l1 e3 e27 e28 e29 e4 e5 (J12 l5 e7 e8 e9 @capZ.eq_1 hi hi2 hg hg2 hei h0 (J6 h0i @encOp.eq_1 @encF.eq_1 @Int.toNat_zero @Int.le_refl @List.length_map.{0,0}))) ?_
    all_goals refine T.nil ?_
    all_goals simp only [ze, simprocAttr, Nat.reduceBEq, Bool.or_self, kill, e1, l1, e3, e27, e28, e29, e4, e5, l5, e7, e8, e9, capZ, hi, hi2, hg, hg2, hei, h0, h0i, encOp, encF, Int.toNat_zero, Int.le_refl, List.length_map]
    all_goals
     rw [hba]
     unfold opBad
     first
      | (rw [a48, a58, a68, a77, hlast, show ((o.kind == 5) != false) = false from a84, a91]; rfl)
      | (rw [a48, a58, a68, a77, hlast, show ((o.kind == 5) != false) = false from a84]; rfl)
      | (rw [a48, a58, a68, a77, hlast, show ((o.kind == 5) != false) = true from a84]; rfl)
      | (rw [a48, a58, a68, a77, hlast, show ((o.kind == 5) != true) = false from a84, a91]; rfl)
      | (rw [a48, a58, a68, a77, hlast, show ((o.kind == 5) != true) = false from a84]; rfl)
      | (rw [a48, a58, a68, a77, hlast, show ((o.kind == 5) != true) = true from a84]; rfl)
      | (rw [a48, a58, a68, a77]; rfl)
      | (rw [a48, a58, a68]; rfl)
      | (rw [a48, a58]; rfl)
      | (rw [a48]; rfl)
   clear e1 l1 e3 e27 e28 e29 e4 e5 l5 e7 e8 e9 s
   rintro s σ ⟨rfl, e97, e1, l1, e3, e27, e28, e29⟩
   refine AW.cond (b := badAt x i) e97 (fun hc => ?_) (fun hc => ?_)
   ·refine AW.sr trivial ?_
    refine AW.ret ?_
    simp only [zs, simprocAttr]
    rw [hpe, if_pos (List.any_eq_true.2 ⟨i, List.mem_range.2 hi, hc⟩)]
   ·refine AW.skip ?_
    exact ⟨rfl, hc, e1, l1, e3, e27, e28, e29⟩
  ·clear e1 l1 e3 e27 e28 e29 s
   rintro s σ ⟨rfl, hbi, e1, l1, e3, e27, e28, e29⟩
   refine AW.reg0 (S.rn (J7 e1 l1 e3 e27 e28 e29 hw) ?_)
   simp only [ze, simprocAttr, e1, l1, e3, e27, e28, e29, hw]
   refine ⟨m - 1, by omega, i + 1, by omega, fun j hj => ?_, ?_⟩
   ·rcases Nat.lt_succ_iff_lt_or_eq.1 hj with h | rfl
    ·exact hb j h
    ·exact hbi
   ·all_goals ((try and_intros) <;> first | rfl | assumption | (rfl))
 ·have hi := of_decide_eq_false hi
  refine AW.exit ?_
  simp only [zs, simprocAttr]
  all_goals apply_assumption
  refine AW.sr trivial ?_
  refine AW.ret ?_
  simp only [zs, simprocAttr]
  rw [hpe, if_neg]
  intro h
  obtain ⟨j, hj, hjb⟩ := List.any_eq_true.1 h
  rw [hb j (by have := List.mem_range.1 hj; omega)] at hjb
  cases hjb
def isP (x : Pln) (i : Int) : Bool := decide (i ≥ 0) && (decide (i < (x.ops.length : Nat)) && (planErr x == 0))
theorem is_spec (x : Pln) (hx : okPlN x) (i : Int) : PCalls Tryz.prog 55 [.agg (encPl x), .c (.int .i64 i)] (fun v => v = .c (.bool (isP x i))) := by
 refine PCalls.intro Tryz.call55 Tryz.func55 rfl Tryz.ntmps55 Tryz.results55 (by simp) ?_
 refine AW.sr @encPl.eq_1 ?_
 refine AW.seq_j (fun s' σ' => σ' = Hp.empty ∧ s'.t 4 = .c (.bool (isP x i))) ?_ ?_
 ·skip
  refine AW.reg0 ?_
  have q1q := J2 @encPl.eq_1 @List.length_map.{0,0}
  refine S.one q1q ?_
  (refine S.sp q1q fun b a6 => ?_; cases b <;> (try exact nope a6))
  all_goals iterate 5 refine S.one q1q ?_
  all_goals (first | (refine S.sp q1q fun b a12 => ?_; cases b <;> (try exact nope a12)) | ((first | refine S.x rfl rfl rfl rfl fun Y Z => ?_ | refine S.u rfl rfl rfl rfl fun Y Z => ?_); simp only [ze, simprocAttr, -Int.reduceNatCast', -Int.reduceToNat]; refine Z _ _ ?_; clear Z Y))
  all_goals iterate 3 refine S.one q1q ?_
  all_goals (first | (refine S.y rfl rfl rfl rfl fun Y Z => ?_; simp only [zz, simprocAttr, -Int.reduceNatCast', -Int.reduceToNat, q1q]; refine PCalls.eqto (planCheck_spec x hx) ?_ <;> (refine Z _ _ ?_; clear Z Y)) | ((first | refine S.x rfl rfl rfl rfl fun Y Z => ?_ | refine S.u rfl rfl rfl rfl fun Y Z => ?_); simp only [ze, simprocAttr, -Int.reduceNatCast', -Int.reduceToNat]; refine Z _ _ ?_; clear Z Y))
  all_goals iterate 3 refine S.one q1q ?_
  all_goals refine S.nil ?_
  all_goals simp only [ze, simprocAttr, q1q]
  all_goals
   unfold isP
   first
    | (have b1 := of_decide_eq_true a6; have b2 := of_decide_eq_true a12; rw [decide_eq_true b1, decide_eq_true b2]; rfl)
    | (have b1 := of_decide_eq_true a6; have b2 := of_decide_eq_false a12; rw [decide_eq_true b1, decide_eq_false b2]; rfl)
    | (have b1 := of_decide_eq_false a6; rw [decide_eq_false b1]; rfl)
 rintro s σ ⟨rfl, e4⟩
 refine AW.ret ?_
 all_goals simp only [zs, simprocAttr, e4]
 all_goals ((try and_intros) <;> first | rfl | assumption | (rfl))
theorem plan_good {x : Pln} (h : planErr x = 0) : (2 ≤ x.ops.length ∧ x.ops.length ≤ 32 ∧ x.from_.length = x.ops.length) ∧ ∀ (i : Nat) (o : OpS) (f : List Int), x.ops[i]? = some o → x.from_[i]? = some f → opBad x (winOf x) i o f = false := by
 unfold planErr at h
 split at h
 ·cases h
 rename_i hc
 split at h
 ·cases h
 rename_i hb
 simp only [cntBad, Bool.or_eq_true, not_or, decide_eq_true_eq, bne_iff_ne, ne_eq, Decidable.not_not] at hc
 refine ⟨by omega, fun i o f h1 h2 => ?_⟩
 have hi : i < x.ops.length := (List.getElem?_eq_some_iff.1 h1).1
 have : ¬ badAt x i = true := fun h3 => hb (List.any_eq_true.2 ⟨i, List.mem_range.2 hi, h3⟩)
 simp only [badAt, h1, h2, Bool.not_eq_true] at this
 exact this
theorem plan_froms {x : Pln} (h : planErr x = 0) {i : Nat} {o : OpS} {f : List Int} (h1 : x.ops[i]? = some o) (h2 : x.from_[i]? = some f) : ∀ z ∈ f, (o.kind = 1 → z = -1) ∧ (o.kind ≠ 1 → 0 ≤ z ∧ z < i) := fun z hz => by
 have hb := (plan_good h).2 i o f h1 h2
 simp only [opBad, Bool.or_eq_false_iff] at hb
 have := List.any_eq_false.1 hb.2.2.2.1 z hz
 simp only [badF, Bool.not_eq_true, Bool.or_eq_false_iff, Bool.and_eq_false_iff, beq_eq_false_iff_ne, bne_eq_false_iff_eq, Bool.not_eq_false', beq_iff_eq, decide_eq_false_iff_not] at this
 omega
def deepStep (acc : List Int) (d : Int) (f : Int) : Int := if f ≥ 0 then max d (acc.getD f.toNat 0 + 1) else d
def deepRow (acc : List Int) (fs : List Int) : Int := fs.foldl (deepStep acc) 1
def deeps (l : List (List Int)) : List Int := l.foldl (fun acc fs => acc ++ [deepRow acc fs]) []
theorem deeps_snoc (l : List (List Int)) (f : List Int) : deeps (l ++ [f]) = deeps l ++ [deepRow (deeps l) f] := by rw [deeps, List.foldl_append]; rfl
theorem deeps_len (l : List (List Int)) : (deeps l).length = l.length := by
 have : ∀ (l : List (List Int)) (a : List Int), (l.foldl (fun acc fs => acc ++ [deepRow acc fs]) a).length = a.length + l.length := fun l => by
  induction l with
  | nil => intro a; rfl
  | cons f l ih => intro a; rw [List.foldl_cons, ih]; simp; omega
 rw [deeps, this]; simp
def deepOf (x : Pln) (i : Int) : Int := if isP x i then (deeps (x.from_.take (i.toNat + 1))).getD i.toNat 0 else 0
def AccI (l : List Int) (u : V) (σ : Hp) : Prop := (u = .c (.slice none 0 0) ∧ l = [] ∧ σ = Hp.empty) ∨ ∃ k, u = .gl k ∧ σ = Hp.empty.setGr k (some ((3, 1), l.map encI))
theorem AccI.kill {l : List Int} {u : V} {σ : Hp} (h : AccI l u σ) (d : Nat) : kill d u = u := by
 rcases h with ⟨h, _⟩ | ⟨k, h, _⟩ <;> rw [h] <;> rfl
theorem deep_spec_ (x : Pln) (hx : okPlN x) (i : Int) (hi64 : inI64 i) : PCalls Tryz.prog 22 [.agg (encPl x), .c (.int .i64 i)] (fun v => v = .c (.int .i64 (deepOf x i))) := by
 refine ACalls.bare (R := fun v _ => v = .c (.int .i64 (deepOf x i))) (ACalls.intro Tryz.call22 Tryz.func22 rfl Tryz.ntmps22 Tryz.results22 (by simp) ?_) fun _ _ h => h
 refine AW.sr @encPl.eq_1 ?_
 refine AW.seq_j (fun s' σ' => σ' = Hp.empty ∧ isP x i = true ∧ s'.t 1 = .c (.int .i64 i) ∧ s'.t 2 = .lp 2 0 ∧ s'.l 2 = some [.sl (x.ops.map encOp), .sl (x.from_.map encF)]) ?_ ?_
 ·refine AW.seq_k fun K2 h2 => ?_
  refine AW.reg0 ?_
  iterate 2 refine S.one @encPl.eq_1 ?_
  (refine S.g rfl rfl fun Y Z => ?_; simp only [zz, simprocAttr, -Int.reduceNatCast', -Int.reduceToNat, encPl]; refine PCalls.eqto (is_spec x hx i) ?_ <;> (refine Z _ _ ?_; clear Z Y))
  all_goals refine S.one @encPl.eq_1 ?_
  all_goals (refine S.nil ?_; simp only [ze, simprocAttr, encPl]; apply_assumption)
  refine AW.cond (b := !isP x i) (by simp [ev]) (fun hb => ?_) (fun hb => ?_)
  ·have hb : isP x i = false := by simpa using hb
   refine AW.sr trivial ?_
   refine AW.ret ?_
   simp only [zs, simprocAttr]
   rw [deepOf, hb, if_neg Bool.false_ne_true]
  ·have hb : isP x i = true := by simpa using hb
   refine AW.skip ?_
   simp only [zs, simprocAttr]
   exact hb
 rintro s σ ⟨rfl, hb, e1, e2, l2⟩
 have hdo : deepOf x i = (deeps (x.from_.take (i.toNat + 1))).getD i.toNat 0 := by rw [deepOf, hb, if_pos rfl]
 simp only [isP, Bool.and_eq_true, decide_eq_true_eq, beq_iff_eq] at hb
 obtain ⟨h0, h1, he⟩ := hb
 obtain ⟨⟨hn1, hn2, hn3⟩, _⟩ := plan_good he
 obtain ⟨q, rfl⟩ := Int.eq_ofNat_of_zero_le h0
 simp only [Int.toNat_natCast] at hdo
 have hq : q < x.ops.length := by omega
 have hwq : IntKind.i64.wrap ((q : Int) + 1) = ((q + 1 : Nat) : Int) := by rw [wrap_small _ (by omega) (by omega)]; omega
 all_goals refine AW.sr (J3 e1 e2 l2) ?_
 refine AW.seq_j (fun s' σ' => AccI (deeps (x.from_.take (q + 1))) (s'.t 5) σ' ∧ s'.t 1 = .c (.int .i64 (q : Nat))) ?_ ?_
 ·refine AW.sr (J4 e1 e2 l2 hwq) ?_
  refine AW.block ?_   -- 0
  refine AW.loop (fun m s' σ' => ∃ k : Nat, m + k = q + 1 ∧ AccI (deeps (x.from_.take k)) (s'.t 5) σ' ∧ (deeps (x.from_.take k)).length = k ∧ (∀ d ∈ deeps (x.from_.take k), 1 ≤ d ∧ d ≤ k) ∧ s'.t 1 = .c (.int .i64 (q : Nat)) ∧ s'.t 2 = .lp 2 0 ∧ s'.l 2 = some [.sl (x.ops.map encOp), .sl (x.from_.map encF)] ∧ s'.t 15 = .c (.int .i64 ((q + 1 : Nat) : Int)) ∧ s'.t 16 = .c (.int .i64 (k : Nat))) (q + 1) ?_ ?_
  ·refine ⟨0, by simp, ?_⟩
   simp only [zs, simprocAttr, -Int.reduceNatCast', -Int.reduceToNat, e1, e2, l2]
   refine ⟨.inl ⟨rfl, rfl, rfl⟩, rfl, fun d h => (by cases h), ?_⟩
   all_goals ((try and_intros) <;> first | rfl | assumption | (rfl))
  clear e1 e2 l2 s
  rintro m s σ ⟨k, hm, hacc, hkl, hkb, e1, e2, l2, e15, e16⟩
  all_goals refine AW.sr (J2 e15 e16) ?_
  refine AW.seq_k fun K7 h7 => ?_
  refine AW.cond (b := decide (k < q + 1)) (by simp [ev]; try omega) (fun hk => ?_) (fun hk => ?_)
  ·have hk := of_decide_eq_true hk
   have hkf : k < x.from_.length := by omega
   obtain ⟨f, hf, hfm, hg, hd⟩ := len_f1s hkf
   have hkx : k < x.ops.length := by omega
   have hok := plan_froms he (List.getElem?_eq_getElem hkx) hf
   have hfr : ∀ z ∈ f, z ≥ 0 → z < k := fun z hz h => by
    have := hok z hz
    by_cases hc : x.ops[k].kind = 1
    ·have := this.1 hc; omega
    ·exact (this.2 hc).2
   have hfl := len_sum hfm
   have hsm := hx.small.2.2
   have hw := wadd1 (a := k) (by omega)
   have hk5 := hacc.kill
   have htk : x.from_.take (k + 1) = x.from_.take k ++ [f] := by rw [List.take_add_one, hf]; rfl
   have hds := deeps_snoc (x.from_.take k) f
   rw [← htk] at hds
   generalize deeps (x.from_.take k) = acc at hacc hkl hkb hds
   refine AW.skip ?_
   simp only [zs, simprocAttr]
   all_goals apply_assumption
   refine AW.seq_j (fun s' σ' => AccI (acc ++ [deepRow acc f]) (s'.t 5) σ' ∧ (1 ≤ deepRow acc f ∧ deepRow acc f ≤ k + 1) ∧ s'.t 1 = .c (.int .i64 (q : Nat)) ∧ s'.t 2 = .lp 2 0 ∧ s'.l 2 = some [.sl (x.ops.map encOp), .sl (x.from_.map encF)] ∧ s'.t 15 = .c (.int .i64 ((q + 1 : Nat) : Int)) ∧ s'.t 16 = .c (.int .i64 (k : Nat))) ?_ ?_
   ·refine AW.block ?_   -- 1
    refine AW.sr (J5 e1 e2 l2 e15 e16) ?_
    refine AW.sr (J5 e1 e2 l2 e15 e16) ?_
    refine AW.seq_j (fun s' σ' => AccI acc (s'.t 5) σ' ∧ s'.t 7 = .c (.int .i64 (deepRow acc f)) ∧ (1 ≤ deepRow acc f ∧ deepRow acc f ≤ k + 1) ∧ s'.t 1 = .c (.int .i64 (q : Nat)) ∧ s'.t 2 = .lp 2 0 ∧ s'.l 2 = some [.sl (x.ops.map encOp), .sl (x.from_.map encF)] ∧ s'.t 15 = .c (.int .i64 ((q + 1 : Nat) : Int)) ∧ s'.t 16 = .c (.int .i64 (k : Nat))) ?_ ?_
    ·refine AW.sr (J9 e1 e2 l2 e15 e16 hkf hg @encF.eq_1 @List.length_map.{0,0}) ?_
     refine AW.block ?_   -- 2
     refine AW.loop (fun m s' σ' => ∃ (j : Nat) (d : Int), m + j = f.length ∧ AccI acc (s'.t 5) σ' ∧ deepRow acc f = (f.drop j).foldl (deepStep acc) d ∧ (1 ≤ d ∧ d ≤ k + 1) ∧ s'.t 1 = .c (.int .i64 (q : Nat)) ∧ s'.t 2 = .lp 2 0 ∧ s'.l 2 = some [.sl (x.ops.map encOp), .sl (x.from_.map encF)] ∧ s'.t 15 = .c (.int .i64 ((q + 1 : Nat) : Int)) ∧ s'.t 16 = .c (.int .i64 (k : Nat)) ∧ s'.t 7 = .c (.int .i64 d) ∧ s'.t 23 = .sl (f.map encI) ∧ s'.t 24 = .c (.int .i64 (f.length : Nat)) ∧ s'.t 25 = .c (.int .i64 (j : Nat))) f.length ?_ ?_
     ·refine ⟨0, 1, by simp, ?_⟩
      simp only [zs, reduceIte, Nat.reduceEqDiff, Nat.reduceLT, Nat.reduceLeDiff, Nat.reduceAdd, reduceCtorEq, Nat.reduceMul, e1, e2, l2, e15, e16]
      refine ⟨hacc, rfl, ⟨by omega, by omega⟩, ?_⟩
      all_goals ((try and_intros) <;> first | rfl | assumption | (rfl))
     clear e1 e2 l2 e15 e16 hacc hk5 s σ
     rintro m2 s σ ⟨j, d, hm2, hacc, hp, hdb, e1, e2, l2, e15, e16, e7, e23, e24, e25⟩
     all_goals refine AW.sr (J2 e24 e25) ?_
     refine AW.seq_k fun K12 h12 => ?_
     refine AW.cond (b := decide (j < f.length)) (by simp [ev]) (fun hj => ?_) (fun hj => ?_)
     ·have hj := of_decide_eq_true hj
      obtain ⟨z, hz, hg2, hd2⟩ := int_get hj
      have hzm := List.mem_of_getElem? hz
      have hw2 := wadd1 (a := j) (by omega)
      rw [hd2, List.foldl_cons] at hp
      have hk5 := hacc.kill
      refine AW.skip ?_
      simp only [zs, simprocAttr]
      all_goals apply_assumption
      refine AW.seq_j (fun s' σ' => AccI acc (s'.t 5) σ' ∧ (1 ≤ deepStep acc d z ∧ deepStep acc d z ≤ k + 1) ∧ s'.t 1 = .c (.int .i64 (q : Nat)) ∧ s'.t 2 = .lp 2 0 ∧ s'.l 2 = some [.sl (x.ops.map encOp), .sl (x.from_.map encF)] ∧ s'.t 15 = .c (.int .i64 ((q + 1 : Nat) : Int)) ∧ s'.t 16 = .c (.int .i64 (k : Nat)) ∧ s'.t 7 = .c (.int .i64 (deepStep acc d z)) ∧ s'.t 23 = .sl (f.map encI) ∧ s'.t 24 = .c (.int .i64 (f.length : Nat)) ∧ s'.t 25 = .c (.int .i64 (j : Nat))) ?_ ?_
      ·refine AW.block ?_   -- 3
       refine AW.sr (J6 e23 e25 hj hg2 @encI.eq_1 @List.length_map.{0,0}) ?_
       refine AW.sr (J3 e1 e2 l2) ?_
       refine AW.cond (b := decide (z ≥ 0)) (by simp [ev]) (fun hc => ?_) (fun hc => ?_)
       ·have hc := of_decide_eq_true hc
        have hzk := hfr z hzm hc
        obtain ⟨zn, rfl⟩ := Int.eq_ofNat_of_zero_le hc
        have hza : zn < acc.length := by omega
        have hgz := getD_map (f := encI) hza
        have hbz := hkb acc[zn] (List.getElem_mem hza)
        have hst : deepStep acc d (zn : Nat) = max d (acc[zn] + 1) := by
         rw [deepStep, if_pos hc, Int.toNat_natCast]
         congr 2
         simp [List.getD, hza]
        generalize acc[zn] = y at hgz hbz hst
        have hwy : IntKind.i64.wrap (y + 1) = y + 1 := wrap_small _ (by omega) (by omega)
        have hmx : (if d < y + 1 then y + 1 else d) = deepStep acc d (zn : Nat) := by rw [hst]; split <;> omega
        rcases hacc with ⟨h5, h6, rfl⟩ | ⟨kk, h5, rfl⟩
        ·rw [h6] at hza; cases hza
        ·skip
         refine AW.reg0 (S.rn (J12 e1 e2 l2 e7 e15 e16 e23 e24 e25 h5 hza (J5 hgz @encI.eq_1 hwy hmx @List.length_map.{0,0})) ?_)
         simp only [ze, simprocAttr, e1, e2, l2, e7, e15, e16, e23, e24, e25, h5, hza, hgz, encI, hwy, hmx, List.length_map]
         refine ⟨.inr ⟨kk, rfl, rfl⟩, by rw [hst]; omega, by rw [hst]; omega⟩
       ·have hc := of_decide_eq_false hc
        have hst : deepStep acc d z = d := by rw [deepStep, if_neg hc]
        rw [hst]
        refine AW.skip ?_
        simp only [zs, simprocAttr, e1, e2, l2, e7, e15, e16, e23, e24, e25]
        exact ⟨hacc, hdb⟩
      ·clear e1 e2 l2 e15 e16 e7 e23 e24 e25 hacc hk5 s σ
       rintro s σ ⟨hacc, hdb, e1, e2, l2, e15, e16, e7, e23, e24, e25⟩
       have hk5 := hacc.kill
       refine AW.reg0 (S.rn (J10 e1 e2 l2 e15 e16 e7 e23 e24 e25 hw2) ?_)
       simp only [ze, simprocAttr, e1, e2, l2, e15, e16, e7, e23, e24, e25, hw2]
       refine ⟨m2 - 1, by omega, j + 1, _, by omega, hacc, hp, hdb, ?_⟩
       all_goals ((try and_intros) <;> first | rfl | assumption | (rfl))
     ·have hj := of_decide_eq_false hj
      rw [List.drop_of_length_le (by omega)] at hp
      have hp : deepRow acc f = d := hp
      refine AW.exit ?_
      rw [hp]
      simp only [zs, simprocAttr, e1, e2, l2, e15, e16, e7]
      exact ⟨hacc, hdb⟩
    ·clear e1 e2 l2 e15 e16 hacc hk5 s σ
     rintro s σ ⟨hacc, e7, hdb, e1, e2, l2, e15, e16⟩
     have y3 : (1 ≤ maxLen) = True := eq_true (by unfold maxLen; omega)
     have y4 : (8 ≤ reach) = True := eq_true (by unfold reach; omega)
     have z1 := len_i1 (deepRow acc f)
     rcases hacc with ⟨h5, rfl, rfl⟩ | ⟨kk, h5, rfl⟩
     ·skip
      refine AW.reg0 ?_
      iterate 3 (refine S.g rfl rfl fun Y Z => ?_; simp only [zb, simprocAttr, -Int.reduceNatCast', -Int.reduceToNat, e1, e2, l2, e15, e16, e7, h5, y3, y4, z1, tt]; refine Z _ _ ?_; clear Z Y)
      all_goals (refine S.g rfl rfl fun Y Z => ?_; simp only [zz, simprocAttr, -Int.reduceNatCast', -Int.reduceToNat, tt, e1, e2, l2, e15, e16, e7, h5, y3, y4, z1]; intro k1 hk1 <;> (refine Z _ _ ?_; clear Z Y))
      all_goals refine S.one (J10 e1 e2 l2 e15 e16 e7 h5 y3 y4 z1) ?_
      all_goals refine S.nil ?_
      all_goals simp only [ze, simprocAttr, e1, e2, l2, e15, e16, e7, h5, y3, y4, z1]
      refine ⟨.inr ⟨k1, rfl, rfl⟩, hdb⟩
     ·have y1 : (acc.length + 1 ≤ maxLen) = True := eq_true (by unfold maxLen; omega)
      have y2 : ((acc.length + 1) * 8 ≤ reach) = True := eq_true (by unfold reach; omega)
      refine AW.reg0 ?_
      iterate 3 (refine S.g rfl rfl fun Y Z => ?_; simp only [zb, simprocAttr, -Int.reduceNatCast', -Int.reduceToNat, e1, e2, l2, e15, e16, e7, h5, y1, y2, y3, y4, z1, List.length_map, tt]; refine Z _ _ ?_; clear Z Y)
      all_goals (refine S.g rfl rfl fun Y Z => ?_; simp only [zz, simprocAttr, -Int.reduceNatCast', -Int.reduceToNat, tt, e1, e2, l2, e15, e16, e7, h5, y1, y2, y3, y4, z1, List.length_map]; intro k1 hk1 <;> (refine Z _ _ ?_; clear Z Y))
      all_goals refine S.one (J12 e1 e2 l2 e15 e16 e7 h5 y1 y2 y3 y4 (J2 z1 @List.length_map.{0,0})) ?_
      all_goals refine S.nil ?_
      all_goals simp only [ze, simprocAttr, e1, e2, l2, e15, e16, e7, h5, y1, y2, y3, y4, z1, List.length_map]
      refine ⟨.inr ⟨k1, rfl, ?_⟩, hdb⟩
      rw [List.map_append]
      exact Hp.eqs (fun _ => rfl) fun q => by by_cases h1 : q = k1 <;> by_cases h2 : q = kk <;> simp [h1, h2, Hp.setGr, Hp.empty, encI]
   ·clear e1 e2 l2 e15 e16 hacc hk5 s σ
    rintro s σ ⟨hacc, hdb, e1, e2, l2, e15, e16⟩
    rw [← hds] at hacc
    refine AW.reg0 (S.rn (J6 e1 e2 l2 e15 e16 hw) ?_)
    simp only [ze, simprocAttr, e1, e2, l2, e15, e16, hw]
    refine ⟨m - 1, by omega, k + 1, by omega, hacc, by rw [hds]; simp [hkl], fun d hd' => ?_, ?_⟩
    ·rw [hds] at hd'
     rcases List.mem_append.1 hd' with h | h
     ·have := hkb d h; omega
     ·rw [List.mem_singleton.1 h]; omega
    ·all_goals ((try and_intros) <;> first | rfl | assumption | (rfl))
  ·have hk := of_decide_eq_false hk
   obtain rfl : k = q + 1 := by omega
   refine AW.exit ?_
   simp only [zs, simprocAttr, e1]
   first | exact ⟨hacc, rfl⟩ | exact hacc
 rintro s σ ⟨hacc, e1⟩
 have hlen : (deeps (x.from_.take (q + 1))).length = q + 1 := by
  rw [deeps_len, List.length_take]; omega
 have hq1 : q < (deeps (x.from_.take (q + 1))).length := by omega
 have hgq := getD_map (f := encI) hq1
 have hres : deepOf x (q : Nat) = (deeps (x.from_.take (q + 1)))[q] := by rw [hdo]; simp [List.getD, hq1]
 rw [hres]
 generalize (deeps (x.from_.take (q + 1)))[q] = r at hgq
 rcases hacc with ⟨h5, h6, rfl⟩ | ⟨kk, h5, rfl⟩
 ·rw [h6] at hq1; cases hq1
 ·refine AW.sr (J6 e1 h5 hq1 hgq @encI.eq_1 @List.length_map.{0,0}) ?_
  refine AW.ret ?_
  simp only [zs, simprocAttr]
  all_goals ((try and_intros) <;> first | rfl | assumption | (rfl))
def lsA : ByteArray := ⟨#[65]⟩
def lsB : ByteArray := ⟨#[66]⟩
def lvA : ByteArray := ⟨#[97]⟩
def lvB : ByteArray := ⟨#[98]⟩
def lnA : Nd := ⟨1, lvA, lsA, [], []⟩
def lnB : Nd := ⟨1, lvB, lsB, [], []⟩
def lnS : Nd := ⟨2, ⟨#[]⟩, ⟨#[]⟩, [], [lnA, lnB]⟩
def lpL : Pat := ⟨⟨#[112]⟩, 5, lnS, []⟩
def loA : OpS := ⟨1, lvA, lsA, [], [], 5, 1⟩
def loB : OpS := ⟨1, lvB, lsB, [], [], 5, 1⟩
def loS : OpS := ⟨2, ⟨#[]⟩, ⟨#[]⟩, [], [], 5, 2⟩
def loR : OpS := ⟨5, ⟨#[]⟩, ⟨#[]⟩, [], [], 5, 1⟩
def lxL : Pln := ⟨[loA, loB, loS, loR], [[-1], [-1], [0, 1], [2]]⟩
theorem lab : eqS lvA lvB = false := by simp [eqS, lvA, lvB]
theorem lmk (n : Nd) (h : n.kids = []) (x : Pln) : n.mkR putPl 5 x [] = putPl x ⟨kindOf n.kind, n.var, n.type, n.tests, [], 5, 1⟩ [-1] := by
 rw [Nd.mkR_eq]
 simp only [h, opOf]
 rfl
theorem lput1 : putPl ⟨[], []⟩ loA [-1] = (⟨[loA], [[-1]]⟩, 0) := by rfl
theorem lput2 : putPl ⟨[loA], [[-1]]⟩ loB [-1] = (⟨[loA, loB], [[-1], [-1]]⟩, 1) := by
 rw [putPl_new]
 ·rfl
 ·intro j hj
  have : j = 0 := by simp at hj; exact hj
  subst this
  show (sameOp loA loB && allEq eqI [-1] [-1]) = false
  have : sameOp loA loB = false := by
   show ((1 : Int) == 1 && (eqS lvA lvB && _)) = false
   rw [lab]; rfl
  rw [this]; rfl
theorem lput3 : putPl ⟨[loA, loB], [[-1], [-1]]⟩ loS [0, 1] = (⟨[loA, loB, loS], [[-1], [-1], [0, 1]]⟩, 2) := by rfl
theorem lput4 : putPl ⟨[loA, loB, loS], [[-1], [-1], [0, 1]]⟩ loR [2] = (lxL, 3) := by rfl
theorem lmkS : lnS.mkR putPl 5 ⟨[], []⟩ [] = (⟨[loA, loB, loS], [[-1], [-1], [0, 1]]⟩, 2) := by
 rw [Nd.mkR_eq]
 have hk : kidsR [] ((lnS.kids.map (Nd.mkR putPl 5)).zip lnS.kids) (⟨[], []⟩, []) = (⟨[loA, loB], [[-1], [-1]]⟩, [0, 1]) := by
  show kidsR [] [(lnA.mkR putPl 5, lnA), (lnB.mkR putPl 5, lnB)] (⟨[], []⟩, []) = _
  simp only [kidsR, List.filter_nil]
  rw [lmk lnA rfl, show putPl ⟨[], []⟩ ⟨kindOf lnA.kind, lnA.var, lnA.type, lnA.tests, [], 5, 1⟩ [-1] = (⟨[loA], [[-1]]⟩, 0) from lput1]
  simp only
  rw [lmk lnB rfl, show putPl ⟨[loA], [[-1]]⟩ ⟨kindOf lnB.kind, lnB.var, lnB.type, lnB.tests, [], 5, 1⟩ [-1] = (⟨[loA, loB], [[-1], [-1]]⟩, 1) from lput2]
  rfl
 rw [hk, if_neg (by decide)]
 exact lput3
theorem lplan : planR putM lpL = lxL := by
 rw [planR_same, planR]
 show (putPl (lnS.mkR putPl 5 ⟨[], []⟩ []).1 _ [((lnS.mkR putPl 5 ⟨[], []⟩ []).2 : Int)]).1 = lxL
 rw [lmkS]
 exact congrArg Prod.fst lput4
theorem lvarsA : lnA.vars = [lvA] := by rfl
theorem lvarsB : lnB.vars = [lvB] := by rfl
theorem lba : eqS lvB lvA = false := by simp [eqS, lvA, lvB]
theorem lbi : lnS.binds = 0 := by
 rw [Nd.binds_eq]
 show bindsFrom true [] [(lnA.binds, lnA.vars), (lnB.binds, lnB.vars)] = 0
 have h1 : lnA.binds = 0 := by rw [Nd.binds_eq]; rfl
 have h2 : lnB.binds = 0 := by rw [Nd.binds_eq]; rfl
 rw [h1, h2, lvarsA, lvarsB]
 simp [bindsFrom, meets, hasS, lba]
theorem lpat : patErr lpL = 0 := by
 have h : patOwn lpL = false := by rfl
 rw [patErr, h, if_neg Bool.false_ne_true, if_pos (show lpL.node.shape = 0 by rfl), if_pos (show lpL.node.binds = 0 from lbi)]
 rfl
theorem lplanE : planE putM lpL = (lxL, 0) := by rw [planE, if_pos lpat, lplan]
theorem lerr : planErr lxL = 0 := by rfl
theorem ldeep : deepOf lxL 3 = 3 := by rfl
theorem lok_leaf {v t : ByteArray} (hv : v.size < 4611686018427387904) (ht : t.size < 4611686018427387904) : (Nd.mk 1 v t [] []).ok := by
 rw [Nd.ok_eq]
 exact ⟨⟨hv, ht, (by show 0 < 4611686018427387904; decide), fun c h => by cases h⟩, fun p h => by cases h⟩
theorem lokS : lnS.ok := by
 rw [Nd.ok_eq]
 refine ⟨⟨by decide, by decide, by decide, fun c h => by cases h⟩, fun p h => ?_⟩
 have h : p ∈ [lnA.ok, lnB.ok] := h
 rcases List.mem_cons.1 h with rfl | h
 ·exact lok_leaf (by decide) (by decide)
 ·rw [List.mem_singleton.1 h]; exact lok_leaf (by decide) (by decide)
theorem lokP : okPat lpL := ⟨by decide, by show lnS.size ≤ 1048576; rw [show lnS.size = 3 from rfl]; decide, lokS, by decide, fun c h => by cases h⟩
theorem linr_leaf (v t : ByteArray) : (Nd.mk 1 v t [] []).inr := by
 rw [Nd.inr_eq]
 exact ⟨(fun c h => by cases h), (fun p h => by cases h)⟩
theorem linr : lnS.inr := by
 rw [Nd.inr_eq]
 refine ⟨(fun c h => by cases h), fun p h => ?_⟩
 have h : p ∈ [lnA.inr, lnB.inr] := h
 rcases List.mem_cons.1 h with rfl | h
 ·exact linr_leaf _ _
 ·rw [List.mem_singleton.1 h]; exact linr_leaf _ _
theorem lxok : okPlN lxL := by
 refine ⟨fun o ho => ?_, by decide, by decide, by decide⟩
 have : o = loA ∨ o = loB ∨ o = loS ∨ o = loR := by simpa [lxL] using ho
 rcases this with rfl | rfl | rfl | rfl <;> exact ⟨⟨by decide, by decide⟩, by decide, by decide⟩
theorem live_spec {tq : Nat × Nat × Nat} : ACalls Tryz.prog 8 [] (tabH tq) (fun v σ' => σ' = tabH tq ∧ v = .c (.bool true)) := by
 have hof := Of_spec (tq := tq) lpL lokP linr (fun c h => by cases h) (by unfold inI64; decide)
 rw [lplanE] at hof
 have heq := equalI [0, 1] [0, 1] (by decide)
 have hchk := planCheck_spec lxL lxok
 rw [lerr] at hchk
 have hdeep := deep_spec_ lxL lxok 3 (by unfold inI64; decide)
 rw [ldeep] at hdeep
 refine ACalls.intro Tryz.call8 Tryz.func8 rfl Tryz.ntmps8 Tryz.results8 (by simp) ?_
 all_goals refine AW.sr trivial ?_
 refine AW.seq_k fun K2 h2 => ?_
 all_goals refine AW.reg0 ?_
 all_goals iterate 2 refine S.one trivial ?_
 all_goals (refine S.g rfl rfl fun Y Z => ?_; simp only [zb, simprocAttr, -Int.reduceNatCast', -Int.reduceToNat, tt]; refine ⟨rfl, (by simp), ?_⟩ <;> (refine Z _ _ ?_; clear Z Y))
 all_goals iterate 4 refine S.one trivial ?_
 all_goals (refine S.nil ?_; simp only [ze, simprocAttr]; apply_assumption)
 refine AW.seq_k fun K3 h3 => ?_
 all_goals refine AW.reg0 ?_
 all_goals refine S.one @encPl.eq_1 ?_
 all_goals (refine S.g rfl rfl fun Y Z => ?_; simp only [zz, simprocAttr, -Int.reduceNatCast', -Int.reduceToNat, encPl]; (refine ACalls.wkA (ACalls.to hof ?_); rintro v1 σ1 ⟨rfl, rfl⟩) <;> (refine Z _ _ ?_; clear Z Y))
 all_goals iterate 6 refine S.one @encPl.eq_1 ?_
 all_goals (refine S.nil ?_; simp only [ze, simprocAttr, encPl]; apply_assumption)
 refine AW.st (fun s' => s'.t 2 = .lp 2 0 ∧ s'.l 2 = some [.sl (lxL.ops.map encOp), .sl (lxL.from_.map encF)] ∧ s'.t 3 = .c (.int .i64 0)) ?_ ?_
 ·simp only [zs, simprocAttr]
  all_goals ((try and_intros) <;> first | rfl | assumption | (rfl))
 rintro s ⟨e2, l2, e3⟩
 have g1 : (lxL.ops.map encOp).length = 4 := rfl
 have g2 : (lxL.from_.map encF).length = 4 := rfl
 have g3 : (lxL.ops.map encOp).getD 2 [] = encOp loS := rfl
 have g4 : (lxL.from_.map encF).getD 2 [] = [.sl [[.c (.int .i64 0)], [.c (.int .i64 1)]]] := rfl
 have g5 : loS.kind = 2 := rfl
 have g6 : allEq eqI [0, 1] [0, 1] = true := rfl
 rw [g6] at heq
 simp only [List.map_cons, List.map_nil, encI] at heq
 unfold encPl at hchk hdeep
 generalize lxL.ops.map encOp = lo at *
 generalize lxL.from_.map encF = lf at *
 have h44 : (((4 : Nat) : Int) == 4) = true := rfl
 have h22 : ((2 : Int) == 2) = true := rfl
 have h24 : ((2 : Int) < ((4 : Nat) : Int)) = True := eq_true (by decide)
 have h24n : ((2 : Nat) < 4) = True := eq_true (by decide)
 have h33 : ((3 : Int) == 3) = true := rfl
 have h00 : ((0 : Int) == 0) = true := rfl
 refine AW.seq_k fun K4 h4 => ?_
 all_goals refine AW.reg0 ?_
 all_goals (refine S.g rfl rfl fun Y Z => ?_; simp only [zz, simprocAttr, -Int.reduceNatCast', -Int.reduceToNat, e2, l2, e3, g1, g2, g3, g4, g5, encOp, h44, h22, h33, h00, h24, h24n, Int.reduceToNat, Int.reduceLE, Int.reduceLT]; refine Z _ _ ?_; clear Z Y)
 all_goals (refine S.sp (J12 e2 l2 e3 g1 g2 g3 g4 g5 @encOp.eq_1 h44 h22 (J4 h33 h00 h24 h24n)) fun b a15 => ?_; cases b <;> (try exact nope a15))
 all_goals iterate 4 ((first | refine S.g rfl rfl fun Y Z => ?_ | refine S.y rfl rfl rfl rfl fun Y Z => ?_ | refine S.x rfl rfl rfl rfl fun Y Z => ?_ | refine S.u rfl rfl rfl rfl fun Y Z => ?_); simp only [zz, simprocAttr, -Int.reduceNatCast', -Int.reduceToNat, e2, l2, e3, g1, g2, g3, g4, g5, encOp, h44, h22, h33, h00, h24, h24n, Int.reduceToNat, Int.reduceLE, Int.reduceLT, tt]; refine Z _ _ ?_; clear Z Y)
 all_goals (first | (refine S.sp (J12 e2 l2 e3 g1 g2 g3 g4 g5 @encOp.eq_1 h44 h22 (J4 h33 h00 h24 h24n)) fun b a20 => ?_; cases b <;> (try exact nope a20)) | ((first | refine S.x rfl rfl rfl rfl fun Y Z => ?_ | refine S.u rfl rfl rfl rfl fun Y Z => ?_); simp only [ze, simprocAttr, -Int.reduceNatCast', -Int.reduceToNat]; refine Z _ _ ?_; clear Z Y))
 all_goals iterate 5 ((first | refine S.g rfl rfl fun Y Z => ?_ | refine S.y rfl rfl rfl rfl fun Y Z => ?_ | refine S.x rfl rfl rfl rfl fun Y Z => ?_ | refine S.u rfl rfl rfl rfl fun Y Z => ?_); simp only [zz, simprocAttr, -Int.reduceNatCast', -Int.reduceToNat, e2, l2, e3, g1, g2, g3, g4, g5, encOp, h44, h22, h33, h00, h24, h24n, Int.reduceToNat, Int.reduceLE, Int.reduceLT, tt]; refine Z _ _ ?_; clear Z Y)
 all_goals (first | (refine S.sp (J12 e2 l2 e3 g1 g2 g3 g4 g5 @encOp.eq_1 h44 h22 (J4 h33 h00 h24 h24n)) fun b a26 => ?_; cases b <;> (try exact nope a26)) | ((first | refine S.x rfl rfl rfl rfl fun Y Z => ?_ | refine S.u rfl rfl rfl rfl fun Y Z => ?_); simp only [ze, simprocAttr, -Int.reduceNatCast', -Int.reduceToNat]; refine Z _ _ ?_; clear Z Y))
 all_goals iterate 7 ((first | refine S.g rfl rfl fun Y Z => ?_ | refine S.y rfl rfl rfl rfl fun Y Z => ?_ | refine S.x rfl rfl rfl rfl fun Y Z => ?_ | refine S.u rfl rfl rfl rfl fun Y Z => ?_); simp only [zz, simprocAttr, -Int.reduceNatCast', -Int.reduceToNat, e2, l2, e3, g1, g2, g3, g4, g5, encOp, h44, h22, h33, h00, h24, h24n, Int.reduceToNat, Int.reduceLE, Int.reduceLT, tt]; refine Z _ _ ?_; clear Z Y)
 all_goals (first | (refine S.sp (J12 e2 l2 e3 g1 g2 g3 g4 g5 @encOp.eq_1 h44 h22 (J4 h33 h00 h24 h24n)) fun b a34 => ?_; cases b <;> (try exact nope a34)) | ((first | refine S.x rfl rfl rfl rfl fun Y Z => ?_ | refine S.u rfl rfl rfl rfl fun Y Z => ?_); simp only [ze, simprocAttr, -Int.reduceNatCast', -Int.reduceToNat]; refine Z _ _ ?_; clear Z Y))
 all_goals iterate 6 ((first | refine S.g rfl rfl fun Y Z => ?_ | refine S.y rfl rfl rfl rfl fun Y Z => ?_ | refine S.x rfl rfl rfl rfl fun Y Z => ?_ | refine S.u rfl rfl rfl rfl fun Y Z => ?_); simp only [zz, simprocAttr, -Int.reduceNatCast', -Int.reduceToNat, e2, l2, e3, g1, g2, g3, g4, g5, encOp, h44, h22, h33, h00, h24, h24n, Int.reduceToNat, Int.reduceLE, Int.reduceLT, tt]; refine Z _ _ ?_; clear Z Y)
 all_goals (first | (refine S.y rfl rfl rfl rfl fun Y Z => ?_; simp only [zb, simprocAttr, -Int.reduceNatCast', -Int.reduceToNat, tt, e2, l2, e3, g1, g2, g3, g4, g5, encOp, h44, h22, h33, h00, h24, h24n, Int.reduceToNat, Int.reduceLE, Int.reduceLT]; refine ⟨rfl, (by simp), ?_⟩ <;> (refine Z _ _ ?_; clear Z Y)) | ((first | refine S.x rfl rfl rfl rfl fun Y Z => ?_ | refine S.u rfl rfl rfl rfl fun Y Z => ?_); simp only [ze, simprocAttr, -Int.reduceNatCast', -Int.reduceToNat]; refine Z _ _ ?_; clear Z Y))
 all_goals (first | (refine S.y rfl rfl rfl rfl fun Y Z => ?_; simp only [zz, simprocAttr, -Int.reduceNatCast', -Int.reduceToNat, e2, l2, e3, g1, g2, g3, g4, g5, encOp, h44, h22, h33, h00, h24, h24n, Int.reduceToNat, Int.reduceLE, Int.reduceLT]; refine PCalls.eqto heq ?_; refine S.bool fun b a42 => ?_; cases b <;> (try exact nope a42) <;> (refine Z _ _ ?_; clear Z Y)) | ((first | refine S.x rfl rfl rfl rfl fun Y Z => ?_ | refine S.u rfl rfl rfl rfl fun Y Z => ?_); simp only [ze, simprocAttr, -Int.reduceNatCast', -Int.reduceToNat]; refine Z _ _ ?_; clear Z Y))
 all_goals iterate 3 ((first | refine S.g rfl rfl fun Y Z => ?_ | refine S.y rfl rfl rfl rfl fun Y Z => ?_ | refine S.x rfl rfl rfl rfl fun Y Z => ?_ | refine S.u rfl rfl rfl rfl fun Y Z => ?_); simp only [zz, simprocAttr, -Int.reduceNatCast', -Int.reduceToNat, e2, l2, e3, g1, g2, g3, g4, g5, encOp, h44, h22, h33, h00, h24, h24n, Int.reduceToNat, Int.reduceLE, Int.reduceLT, tt]; refine Z _ _ ?_; clear Z Y)
 all_goals (first | (refine S.y rfl rfl rfl rfl fun Y Z => ?_; simp only [zz, simprocAttr, -Int.reduceNatCast', -Int.reduceToNat, e2, l2, e3, g1, g2, g3, g4, g5, encOp, h44, h22, h33, h00, h24, h24n, Int.reduceToNat, Int.reduceLE, Int.reduceLT]; refine PCalls.eqto hchk ?_ <;> (refine Z _ _ ?_; clear Z Y)) | ((first | refine S.x rfl rfl rfl rfl fun Y Z => ?_ | refine S.u rfl rfl rfl rfl fun Y Z => ?_); simp only [ze, simprocAttr, -Int.reduceNatCast', -Int.reduceToNat]; refine Z _ _ ?_; clear Z Y))
 all_goals (first | (refine S.sp (J12 e2 l2 e3 g1 g2 g3 g4 g5 @encOp.eq_1 h44 h22 (J4 h33 h00 h24 h24n)) fun b a47 => ?_; cases b <;> (try exact nope a47)) | ((first | refine S.x rfl rfl rfl rfl fun Y Z => ?_ | refine S.u rfl rfl rfl rfl fun Y Z => ?_); simp only [ze, simprocAttr, -Int.reduceNatCast', -Int.reduceToNat]; refine Z _ _ ?_; clear Z Y))
 all_goals iterate 3 ((first | refine S.g rfl rfl fun Y Z => ?_ | refine S.y rfl rfl rfl rfl fun Y Z => ?_ | refine S.x rfl rfl rfl rfl fun Y Z => ?_ | refine S.u rfl rfl rfl rfl fun Y Z => ?_); simp only [zz, simprocAttr, -Int.reduceNatCast', -Int.reduceToNat, e2, l2, e3, g1, g2, g3, g4, g5, encOp, h44, h22, h33, h00, h24, h24n, Int.reduceToNat, Int.reduceLE, Int.reduceLT, tt]; refine Z _ _ ?_; clear Z Y)
 all_goals (first | (refine S.y rfl rfl rfl rfl fun Y Z => ?_; simp only [zz, simprocAttr, -Int.reduceNatCast', -Int.reduceToNat, e2, l2, e3, g1, g2, g3, g4, g5, encOp, h44, h22, h33, h00, h24, h24n, Int.reduceToNat, Int.reduceLE, Int.reduceLT]; refine PCalls.eqto hdeep ?_ <;> (refine Z _ _ ?_; clear Z Y)) | ((first | refine S.x rfl rfl rfl rfl fun Y Z => ?_ | refine S.u rfl rfl rfl rfl fun Y Z => ?_); simp only [ze, simprocAttr, -Int.reduceNatCast', -Int.reduceToNat]; refine Z _ _ ?_; clear Z Y))
 all_goals iterate 3 ((first | refine S.g rfl rfl fun Y Z => ?_ | refine S.y rfl rfl rfl rfl fun Y Z => ?_ | refine S.x rfl rfl rfl rfl fun Y Z => ?_ | refine S.u rfl rfl rfl rfl fun Y Z => ?_); simp only [zz, simprocAttr, -Int.reduceNatCast', -Int.reduceToNat, e2, l2, e3, g1, g2, g3, g4, g5, encOp, h44, h22, h33, h00, h24, h24n, Int.reduceToNat, Int.reduceLE, Int.reduceLT]; refine Z _ _ ?_; clear Z Y)
 all_goals (refine S.nil ?_; simp only [ze, simprocAttr, e2, l2, e3, g1, g2, g3, g4, g5, encOp, h44, h22, h33, h00, h24, h24n, Int.reduceToNat, Int.reduceLE, Int.reduceLT]; apply_assumption)
 refine AW.ret ?_
 all_goals simp only [zs, simprocAttr]
 all_goals ((try and_intros) <;> first | rfl | assumption | (rfl))
theorem eqC_refl (c : Cnd) : eqC c c = true := by
 have h : ∀ b : ByteArray, eqS b b = true := fun b => eqS_iff.2 rfl
 simp only [eqC, h, beq_self_eq_true, Bool.and_self]
theorem sameOp_refl (a : OpS) : sameOp a a = true := by
 have h : ∀ b : ByteArray, eqS b b = true := fun b => eqS_iff.2 rfl
 have h1 : ∀ l : List Cnd, allEq eqC l l = true := allEq_refl eqC_refl
 simp only [sameOp, h, h1, beq_self_eq_true, Bool.and_self]
theorem samePl_refl (x : Pln) : samePl x x = true := by
 have h1 : allEq sameOp x.ops x.ops = true := allEq_refl sameOp_refl x.ops
 have h3 : ∀ a : List Int, allEq eqI a a = true := allEq_refl fun z => beq_self_eq_true z
 have h2 : allEq (allEq eqI) x.from_ x.from_ = true := allEq_refl h3 x.from_
 rw [samePl, h1, h2]; rfl
end Go.Abs.M
namespace Go.Abs
open Go
section
variable {P : Program} {σ : Hp}
variable [Mode]
omit [Mode] in
theorem apart_new (σ : Hp) : Hp.Apart Hp.empty σ := ⟨fun _ => .inl rfl, fun _ => .inl rfl⟩
omit [Mode] in
theorem one_join {k : Nat} {y : (TypeId × Nat) × List (List V)} (h : Hp.Apart (Hp.empty.setGr k (some y)) σ) : σ.gr k = none ∧ (Hp.empty.setGr k (some y)).join σ = σ.setGr k (some y) := by
 refine ⟨?_, ?_⟩
 ·rcases h.gr k with h | h
  ·simp [Hp.setGr] at h
  ·exact h
 ·simp only [Hp.join, Hp.setGr, Hp.empty, Hp.mk.injEq, true_and]
  funext j
  by_cases e : j = k <;> simp [e]
theorem ACalls.newList {f : FuncId} {args : List V} {A : Prop} {y : (TypeId × Nat) × List (List V)} (h : ACalls P f args Hp.empty (fun v σ' => (v = .sl [] ∧ A ∧ σ' = Hp.empty) ∨ ∃ k, v = .gl k ∧ σ' = Hp.empty.setGr k (some y))) (σ : Hp) :
  ACalls P f args σ (fun v σ' => (v = .sl [] ∧ A ∧ σ' = σ) ∨ ∃ k, v = .gl k ∧ σ.gr k = none ∧ σ' = σ.setGr k (some y)) :=
 (h.beside (apart_new σ)).mono fun v σ' ⟨σ1, h1, h2, h3⟩ => by
  rcases h1 with ⟨rfl, ha, rfl⟩ | ⟨k, rfl, rfl⟩
  ·exact .inl ⟨rfl, ha, h3⟩
  ·obtain ⟨h4, h5⟩ := one_join h2
   exact .inr ⟨k, rfl, h4, h3.trans h5⟩
end
end Go.Abs
namespace Go.Abs.M
open Go Go.Abs Go.Proofs
set_option maxRecDepth 20000
theorem len_is (l : List Int) : ∀ (e : List V), e ∈ l.map encI → e.length = 1 := fun e he => by
 obtain ⟨a, _, rfl⟩ := List.mem_map.1 he; rfl
theorem cloneI_own (l : List Int) (hl : l.length * 8 ≤ reach) : ACalls Tryz.prog 45 [.sl (l.map encI)] Hp.empty (fun v σ' => (v = .sl [] ∧ l = [] ∧ σ' = Hp.empty) ∨ ∃ k, v = .gl k ∧ σ' = Hp.empty.setGr k (some ((3, 1), l.map encI))) := by
 refine ACalls.intro Tryz.call45 Tryz.func45 rfl Tryz.ntmps45 Tryz.results45 (by simp) ?_
 refine AW.sr trivial ?_
 refine AW.seq_j (fun s' σ' => σ' = Hp.empty ∧ s'.t 0 = .sl (l.map encI)) ?_ ?_
 ·refine AW.seq_j (fun s' σ' => σ' = Hp.empty ∧ s'.t 0 = .sl (l.map encI) ∧ ∃ b, s'.t 4 = .c (.bool b) ∧ (b = true → l = [])) ?_ ?_
  ·skip
   refine AW.reg0 ?_
   refine S.one trivial ?_
   (refine S.g rfl rfl fun Y Z => ?_; simp only [zz, simprocAttr, -Int.reduceNatCast', -Int.reduceToNat, tt]; refine ⟨fun hne => ?_, fun hz b => ?_⟩ <;> (refine Z _ _ ?_; clear Z Y))
   all_goals refine S.nil ?_
   all_goals simp only [ze, simprocAttr]
   ·exact ⟨_, rfl, fun h => by cases h⟩
   ·exact ⟨_, rfl, fun _ => hz⟩
  rintro s σ ⟨rfl, e0, b, e4, hb⟩
  refine AW.cond (b := b) e4 (fun hc => ?_) (fun hc => AW.skip ?_)
  ·refine AW.sr trivial ?_
   refine AW.ret ?_
   simp only [zs, simprocAttr]
   exact .inl (hb hc)
  ·simp only [zs, simprocAttr]
   exact e0
 rintro s σ ⟨rfl, e0⟩
 refine AW.seq_k fun K3 h3 => ?_
 all_goals refine AW.region (T := { own := fun d => d == 5 }) (fun _ _ h => by cases h) rfl ?_
 all_goals (refine S.g rfl rfl fun Y Z => ?_; simp only [zb, simprocAttr, -Int.reduceNatCast', -Int.reduceToNat, tt, e0]; intro k1 hk1 <;> (refine Z _ _ ?_; clear Z Y))
 all_goals refine S.one e0 ?_
 all_goals (refine S.g rfl rfl fun Y Z => ?_; simp only [zz, simprocAttr, -Int.reduceNatCast', -Int.reduceToNat, tt, e0]; refine ⟨len_is l, by unfold maxLen; unfold reach at hl; omega, by omega, fun k2 hk2 => ?_⟩ <;> (refine Z _ _ ?_; clear Z Y))
 all_goals refine S.one e0 ?_
 all_goals (refine S.nil ?_; simp only [ze, simprocAttr, e0]; apply_assumption)
 refine AW.ret ?_
 all_goals simp only [zs, simprocAttr]
 exact .inr ⟨k2, rfl, by simp⟩
theorem cloneC_own (l : List Cnd) (hl : l.length * 136 ≤ reach) : ACalls Tryz.prog 44 [.sl (l.map encC)] Hp.empty (fun v σ' => (v = .sl [] ∧ l = [] ∧ σ' = Hp.empty) ∨ ∃ k, v = .gl k ∧ σ' = Hp.empty.setGr k (some ((47, 11), l.map encC))) := by
 refine ACalls.intro Tryz.call44 Tryz.func44 rfl Tryz.ntmps44 Tryz.results44 (by simp) ?_
 refine AW.sr trivial ?_
 refine AW.seq_j (fun s' σ' => σ' = Hp.empty ∧ s'.t 0 = .sl (l.map encC)) ?_ ?_
 ·refine AW.seq_j (fun s' σ' => σ' = Hp.empty ∧ s'.t 0 = .sl (l.map encC) ∧ ∃ b, s'.t 4 = .c (.bool b) ∧ (b = true → l = [])) ?_ ?_
  ·skip
   refine AW.reg0 ?_
   refine S.one trivial ?_
   (refine S.g rfl rfl fun Y Z => ?_; simp only [zz, simprocAttr, -Int.reduceNatCast', -Int.reduceToNat, tt]; refine ⟨fun hne => ?_, fun hz b => ?_⟩ <;> (refine Z _ _ ?_; clear Z Y))
   all_goals refine S.nil ?_
   all_goals simp only [ze, simprocAttr]
   ·exact ⟨_, rfl, fun h => by cases h⟩
   ·exact ⟨_, rfl, fun _ => hz⟩
  rintro s σ ⟨rfl, e0, b, e4, hb⟩
  refine AW.cond (b := b) e4 (fun hc => ?_) (fun hc => AW.skip ?_)
  ·refine AW.sr trivial ?_
   refine AW.ret ?_
   simp only [zs, simprocAttr]
   exact .inl (hb hc)
  ·simp only [zs, simprocAttr]
   exact e0
 rintro s σ ⟨rfl, e0⟩
 refine AW.seq_k fun K3 h3 => ?_
 all_goals refine AW.region (T := { own := fun d => d == 5 }) (fun _ _ h => by cases h) rfl ?_
 all_goals (refine S.g rfl rfl fun Y Z => ?_; simp only [zb, simprocAttr, -Int.reduceNatCast', -Int.reduceToNat, tt, e0]; intro k1 hk1 <;> (refine Z _ _ ?_; clear Z Y))
 all_goals refine S.one e0 ?_
 all_goals (refine S.g rfl rfl fun Y Z => ?_; simp only [zz, simprocAttr, -Int.reduceNatCast', -Int.reduceToNat, tt, e0]; refine ⟨len_cs l, by unfold maxLen; unfold reach at hl; omega, by omega, fun k2 hk2 => ?_⟩ <;> (refine Z _ _ ?_; clear Z Y))
 all_goals refine S.one e0 ?_
 all_goals (refine S.nil ?_; simp only [ze, simprocAttr, e0]; apply_assumption)
 refine AW.ret ?_
 all_goals simp only [zs, simprocAttr]
 exact .inr ⟨k2, rfl, by simp⟩
def Lst (σ0 σ : Hp) (T : TypeId × Nat) (es : List (List V)) (v : V) : Prop := (v = .sl [] ∧ es = []) ∨ ∃ k, v = .gl k ∧ σ0.gr k = none ∧ σ.gr k = some (T, es)
theorem Lst.keep {σ0 σ σ' : Hp} {T : TypeId × Nat} {es : List (List V)} {v : V} (h : Lst σ0 σ T es v) (hk : ∀ k, v = .gl k → σ.gr k = some (T, es) → σ'.gr k = σ.gr k) : Lst σ0 σ' T es v := by
 rcases h with h | ⟨k, h1, h2, h3⟩
 ·exact .inl h
 ·exact .inr ⟨k, h1, h2, (hk k h1 h3).trans h3⟩
def RowO (σ0 σ : Hp) (o : OpS) (r : List V) : Prop := ∃ tv cv, r = [.c (.int .i64 o.kind), .c (.string o.var), .c (.string o.type), tv, cv, .c (.int .i64 o.win), .c (.int .i64 o.ins)] ∧ Lst σ0 σ (47, 11) (o.tests.map encC) tv ∧ Lst σ0 σ (47, 11) (o.conds.map encC) cv
def RowF (σ0 σ : Hp) (f : List Int) (r : List V) : Prop := ∃ v, r = [v] ∧ Lst σ0 σ (3, 1) (f.map encI) v
def All2 {α β : Type} (R : α → β → Prop) (l : List α) (r : List β) : Prop := l.length = r.length ∧ ∀ (i : Nat) (a : α) (b : β), l[i]? = some a → r[i]? = some b → R a b
theorem All2.nil {α β : Type} {R : α → β → Prop} : All2 R [] [] := ⟨rfl, fun i a b h => by simp at h⟩
theorem All2.snoc {α β : Type} {R : α → β → Prop} {l : List α} {r : List β} {a : α} {b : β} (h : All2 R l r) (hab : R a b) : All2 R (l ++ [a]) (r ++ [b]) := by
 refine ⟨by simp [h.1], fun i x y hx hy => ?_⟩
 by_cases hi : i < l.length
 ·rw [List.getElem?_append_left hi] at hx
  rw [List.getElem?_append_left (by rw [← h.1]; exact hi)] at hy
  exact h.2 i x y hx hy
 ·rw [List.getElem?_append_right (by omega)] at hx
  rw [List.getElem?_append_right (by rw [← h.1]; omega), ← h.1] at hy
  generalize i - l.length = j at hx hy
  cases j with
  | zero => simp at hx hy; subst hx; subst hy; exact hab
  | succ j => simp at hx
theorem All2.imp {α β : Type} {R R' : α → β → Prop} {l : List α} {r : List β} (h : All2 R l r) (hr : ∀ a b, R a b → R' a b) : All2 R' l r := ⟨h.1, fun i a b h1 h2 => hr a b (h.2 i a b h1 h2)⟩
def Outer {α : Type} (σ0 σ : Hp) (T : TypeId × Nat) (R : α → List V → Prop) (l : List α) (u : V) : Prop := (u = .c (.slice none 0 0) ∧ l = []) ∨ ∃ k rows, u = .gl k ∧ l ≠ [] ∧ σ0.gr k = none ∧ σ.gr k = some (T, rows) ∧ All2 R l rows
theorem Outer.kill {α : Type} {σ0 σ : Hp} {T : TypeId × Nat} {R : α → List V → Prop} {l : List α} {u : V} (h : Outer σ0 σ T R l u) (d : Nat) : kill d u = u := by
 rcases h with ⟨h, _⟩ | ⟨k, _, h, _⟩ <;> rw [h] <;> rfl
theorem Outer.keep {α : Type} {σ0 σ σ' : Hp} {T : TypeId × Nat} {R R' : α → List V → Prop} {l : List α} {u : V} (h : Outer σ0 σ T R l u) (hk : ∀ k es, u = .gl k → σ.gr k = some (T, es) → σ'.gr k = σ.gr k) (hr : ∀ a b, R a b → R' a b) : Outer σ0 σ' T R' l u := by
 rcases h with h | ⟨k, rows, h1, hl, h2, h3, h4⟩
 ·exact .inl h
 ·exact .inr ⟨k, rows, h1, hl, h2, (hk k rows h1 h3).trans h3, h4.imp hr⟩
structure Stay (σ0 σ : Hp) : Prop where
  obj : ∀ g, σ.obj g = σ0.obj g
  gr : ∀ k x, σ0.gr k = some x → σ.gr k = some x
theorem Stay.new {σ0 σ : Hp} (h : Stay σ0 σ) {k : Nat} {y : (TypeId × Nat) × List (List V)} (hk : σ.gr k = none) : Stay σ0 (σ.setGr k (some y)) :=
 ⟨h.obj, fun j x hj => by
  have := h.gr j x hj
  have hne : j ≠ k := fun e => by rw [e, hk] at this; cases this
  simp [hne, this]⟩
theorem Stay.none {σ0 σ : Hp} (h : Stay σ0 σ) {k : Nat} (hk : σ.gr k = none) : σ0.gr k = none := by
 cases e : σ0.gr k with
 | none => rfl
 | some x => rw [h.gr k x e] at hk; cases hk
theorem Stay.refl (σ : Hp) : Stay σ σ := ⟨fun _ => rfl, fun _ _ h => h⟩
theorem Stay.trans {a b c : Hp} (h : Stay a b) (k : Stay b c) : Stay a c := ⟨fun g => (k.obj g).trans (h.obj g), fun j x hj => k.gr j x (h.gr j x hj)⟩
theorem Lst.mono {σ0 σ σ1 : Hp} {T : TypeId × Nat} {es : List (List V)} {v : V} (h : Lst σ0 σ T es v) (hs : Stay σ σ1) : Lst σ0 σ1 T es v := by
 rcases h with h | ⟨k, h1, h2, h3⟩
 ·exact .inl h
 ·exact .inr ⟨k, h1, h2, hs.gr k _ h3⟩
theorem RowO.mono {σ0 σ σ1 : Hp} {o : OpS} {r : List V} (h : RowO σ0 σ o r) (hs : Stay σ σ1) : RowO σ0 σ1 o r := by
 obtain ⟨tv, cv, h1, h2, h3⟩ := h
 exact ⟨tv, cv, h1, h2.mono hs, h3.mono hs⟩
theorem RowF.mono {σ0 σ σ1 : Hp} {f : List Int} {r : List V} (h : RowF σ0 σ f r) (hs : Stay σ σ1) : RowF σ0 σ1 f r := by
 obtain ⟨v, h1, h2⟩ := h
 exact ⟨v, h1, h2.mono hs⟩
theorem Outer.mono {α : Type} {σ0 σ σ1 : Hp} {T : TypeId × Nat} {R R' : α → List V → Prop} {l : List α} {u : V} (h : Outer σ0 σ T R l u) (hs : Stay σ σ1) (hr : ∀ a b, R a b → R' a b) : Outer σ0 σ1 T R' l u := by
 rcases h with h | ⟨k, rows, h1, hl, h2, h3, h4⟩
 ·exact .inl h
 ·exact .inr ⟨k, rows, h1, hl, h2, hs.gr k _ h3, h4.imp hr⟩
theorem new_lst {σ0 σ σ1 : Hp} {T : TypeId × Nat} {es : List (List V)} {v : V} (h0 : Stay σ0 σ) (h : (v = .sl [] ∧ es = [] ∧ σ1 = σ) ∨ ∃ k, v = .gl k ∧ σ.gr k = none ∧ σ1 = σ.setGr k (some (T, es))) : Stay σ σ1 ∧ Lst σ0 σ1 T es v := by
 rcases h with ⟨h1, h2, rfl⟩ | ⟨k, h1, h2, rfl⟩
 ·exact ⟨.refl _, .inl ⟨h1, h2⟩⟩
 ·exact ⟨(Stay.refl σ).new h2, .inr ⟨k, h1, h0.none h2, by simp⟩⟩
structure Moved (T : TypeId × Nat) (σ σ' : Hp) : Prop where
  obj : ∀ g, σ'.obj g = σ.obj g
  gr : ∀ k T' es, T' ≠ T → σ.gr k = some (T', es) → σ'.gr k = some (T', es)
theorem Lst.moved {σ0 σ σ1 : Hp} {T T' : TypeId × Nat} {es : List (List V)} {v : V} (h : Lst σ0 σ T' es v) (hs : Moved T σ σ1) (hne : T' ≠ T) : Lst σ0 σ1 T' es v := by
 rcases h with h | ⟨k, h1, h2, h3⟩
 ·exact .inl h
 ·exact .inr ⟨k, h1, h2, hs.gr k _ _ hne h3⟩
theorem RowO.moved {T : TypeId × Nat} {σ0 σ σ1 : Hp} {o : OpS} {r : List V} (h : RowO σ0 σ o r) (hs : Moved T σ σ1) (hne : (47, 11) ≠ T) : RowO σ0 σ1 o r := by
 obtain ⟨tv, cv, h1, h2, h3⟩ := h
 exact ⟨tv, cv, h1, h2.moved hs hne, h3.moved hs hne⟩
theorem RowF.moved {T : TypeId × Nat} {σ0 σ σ1 : Hp} {f : List Int} {r : List V} (h : RowF σ0 σ f r) (hs : Moved T σ σ1) (hne : (3, 1) ≠ T) : RowF σ0 σ1 f r := by
 obtain ⟨v, h1, h2⟩ := h
 exact ⟨v, h1, h2.moved hs hne⟩
theorem Outer.moved {α : Type} {σ0 σ σ1 : Hp} {T T' : TypeId × Nat} {R R' : α → List V → Prop} {l : List α} {u : V} (h : Outer σ0 σ T' R l u) (hs : Moved T σ σ1) (hne : T' ≠ T) (hr : ∀ a b, R a b → R' a b) : Outer σ0 σ1 T' R' l u := by
 rcases h with h | ⟨k, rows, h1, hl, h2, h3, h4⟩
 ·exact .inl h
 ·exact .inr ⟨k, rows, h1, hl, h2, hs.gr k _ _ hne h3, h4.imp hr⟩
theorem put_first {σ0 σ : Hp} {T : TypeId × Nat} {k1 : Nat} {row : List V} (h0 : Stay σ0 σ) (hk : σ.gr k1 = none) : Moved T σ (σ.setGr k1 (some (T, [row]))) ∧ Stay σ0 (σ.setGr k1 (some (T, [row]))) ∧ σ0.gr k1 = none :=
  ⟨⟨fun _ => rfl, fun k T' es _ h => by
    have : k ≠ k1 := fun e => by rw [e, hk] at h; cases h
    simp [this, h]⟩, h0.new hk, h0.none hk⟩
theorem put_next {σ0 σ : Hp} {T : TypeId × Nat} {ko k1 : Nat} {rows rows' : List (List V)} (h0 : Stay σ0 σ) (hko0 : σ0.gr ko = none) (hko : σ.gr ko = some (T, rows)) (hk : k1 = ko ∨ σ.gr k1 = none) :
  Moved T σ ((σ.setGr ko none).setGr k1 (some (T, rows'))) ∧ Stay σ0 ((σ.setGr ko none).setGr k1 (some (T, rows'))) ∧ σ0.gr k1 = none := by
 have hne : ∀ k x, σ.gr k = some x → k ≠ ko → k ≠ k1 := fun k x h h2 e => by
  subst e
  rcases hk with h3 | h3
  ·exact h2 h3
  ·rw [h3] at h; cases h
 have h01 : σ0.gr k1 = none := by
  rcases hk with rfl | h3
  ·exact hko0
  ·exact h0.none h3
 refine ⟨⟨fun _ => rfl, fun k T' es hT h => ?_⟩, ⟨h0.obj, fun k x hx => ?_⟩, h01⟩
 ·have h1 : k ≠ ko := fun e => by rw [e, hko] at h; injection h with h; injection h with h; exact hT h.symm
  simp [Hp.setGr, hne k _ h h1, h1, h]
 ·have h2 := h0.gr k x hx
  have h1 : k ≠ ko := fun e => by rw [e, hko0] at hx; cases hx
  simp [Hp.setGr, hne k _ h2 h1, h1, h2]
def TwinH (x : Pln) (σ0 : Hp) (u w : V) (σ : Hp) : Prop := Stay σ0 σ ∧ Outer σ0 σ (41, 7) (RowO σ0 σ) x.ops u ∧ Outer σ0 σ (48, 1) (RowF σ0 σ) x.from_ w
structure fitPl (x : Pln) : Prop where
  ops : x.ops.length * 104 ≤ reach
  from_ : x.from_.length * 24 ≤ reach
  tests : ∀ o ∈ x.ops, o.tests.length * 136 ≤ reach
  conds : ∀ o ∈ x.ops, o.conds.length * 136 ≤ reach
  fr : ∀ f ∈ x.from_, f.length * 8 ≤ reach
theorem op_get {l : List OpS} {i : Nat} (h : i < l.length) : ∃ o, l[i]? = some o ∧ o ∈ l ∧ (l.map encOp).getD i [] = encOp o ∧ l.take (i + 1) = l.take i ++ [o] := ⟨l[i], List.getElem?_eq_getElem h, List.getElem_mem h, getD_map h, by rw [List.take_add_one, List.getElem?_eq_getElem h]; rfl⟩
theorem f_get {l : List (List Int)} {i : Nat} (h : i < l.length) : ∃ o, l[i]? = some o ∧ o ∈ l ∧ (l.map encF).getD i [] = encF o ∧ l.take (i + 1) = l.take i ++ [o] := ⟨l[i], List.getElem?_eq_getElem h, List.getElem_mem h, getD_map h, by rw [List.take_add_one, List.getElem?_eq_getElem h]; rfl⟩
theorem len_r7 (a b c d e f g : V) : (∀ (r : List V), r ∈ [[a, b, c, d, e, f, g]] → r.length = 7) = True := eq_true fun r hr => by rw [List.mem_singleton.1 hr]; rfl
theorem len_r1 (a : V) : (∀ (r : List V), r ∈ [[a]] → r.length = 1) = True := eq_true fun r hr => by rw [List.mem_singleton.1 hr]; rfl
def opV (o : OpS) (tv cv : V) : List V := [.c (.int .i64 o.kind), .c (.string o.var), .c (.string o.type), tv, cv, .c (.int .i64 o.win), .c (.int .i64 o.ins)]
def ownV (v : V) : Prop := v = .sl [] ∨ ∃ k, v = .gl k
theorem Lst.own {σ0 σ : Hp} {T : TypeId × Nat} {es : List (List V)} {v : V} (h : Lst σ0 σ T es v) : ownV v := by
 rcases h with h | ⟨k, h, _⟩
 ·exact .inl h.1
 ·exact .inr ⟨k, h⟩
theorem clonePl_spec (x : Pln) (hx : fitPl x) (σ0 : Hp) : ACalls Tryz.prog 12 [.agg (encPl x)] σ0 (fun v σ' => ∃ u w, v = .agg [wk1 u, wk1 w] ∧ TwinH x σ0 u w σ') := by
 have hxo := hx.ops
 have hxf := hx.from_
 unfold reach at hxo hxf
 refine ACalls.intro Tryz.call12 Tryz.func12 rfl Tryz.ntmps12 Tryz.results12 (by simp) ?_
 refine AW.sr @encPl.eq_1 ?_
 refine AW.sr trivial ?_
 refine AW.seq_j (fun s' σ' => ∃ u, s'.t 1 = .lp 1 0 ∧ s'.l 1 = some [.sl (x.ops.map encOp), .sl (x.from_.map encF)] ∧ s'.t 2 = .lp 2 0 ∧ s'.l 2 = some [.c (.slice none 0 0), .c (.slice none 0 0)] ∧ s'.t 3 = .lp 3 0 ∧ s'.l 3 = some [u, .c (.slice none 0 0)] ∧ Stay σ0 σ' ∧ Outer σ0 σ' (41, 7) (RowO σ0 σ') x.ops u) ?_ ?_
 ·refine AW.sr @List.length_map.{0,0} ?_
  refine AW.block ?_   -- 0
  refine AW.loop (fun m s' σ' => ∃ (i : Nat) (u : V), m + i = x.ops.length ∧ s'.t 1 = .lp 1 0 ∧ s'.l 1 = some [.sl (x.ops.map encOp), .sl (x.from_.map encF)] ∧ s'.t 2 = .lp 2 0 ∧ s'.l 2 = some [.c (.slice none 0 0), .c (.slice none 0 0)] ∧ s'.t 3 = .lp 3 0 ∧ s'.l 3 = some [u, .c (.slice none 0 0)] ∧ Stay σ0 σ' ∧ Outer σ0 σ' (41, 7) (RowO σ0 σ') (x.ops.take i) u ∧
   s'.t 9 = .sl (x.ops.map encOp) ∧ s'.t 10 = .c (.int .i64 (x.ops.length : Nat)) ∧ s'.t 11 = .c (.int .i64 (i : Nat))) x.ops.length ?_ ?_
  ·refine ⟨0, .c (.slice none 0 0), by simp, ?_⟩
   simp only [zs, simprocAttr, -Int.reduceNatCast', -Int.reduceToNat]
   exact ⟨.refl _, .inl ⟨rfl, rfl⟩, rfl⟩
  rintro m s σ ⟨i, u, hm, e1, l1, e2, l2, e3, l3, hst, hou, e9, e10, e11⟩
  refine AW.sr (J2 e10 e11) ?_
  refine AW.seq_k fun K5 h5 => ?_
  refine AW.cond (b := decide (i < x.ops.length)) (by simp [ev]) (fun hi => ?_) (fun hi => ?_)
  ·have hi := of_decide_eq_true hi
   obtain ⟨o, ho, hom, hg, htk⟩ := op_get hi
   have hw := wadd1 (a := i) (by omega)
   refine AW.skip ?_
   simp only [zs, simprocAttr]
   all_goals apply_assumption
   refine AW.seq_j (fun s' σ' => ∃ u, s'.t 1 = .lp 1 0 ∧ s'.l 1 = some [.sl (x.ops.map encOp), .sl (x.from_.map encF)] ∧ s'.t 2 = .lp 2 0 ∧ s'.l 2 = some [.c (.slice none 0 0), .c (.slice none 0 0)] ∧ s'.t 3 = .lp 3 0 ∧ s'.l 3 = some [u, .c (.slice none 0 0)] ∧ Stay σ0 σ' ∧ Outer σ0 σ' (41, 7) (RowO σ0 σ') (x.ops.take (i + 1)) u ∧
    s'.t 9 = .sl (x.ops.map encOp) ∧ s'.t 10 = .c (.int .i64 (x.ops.length : Nat)) ∧ s'.t 11 = .c (.int .i64 (i : Nat))) ?_ ?_
   ·refine AW.block ?_   -- 1
    refine AW.sr (J12 e1 l1 e2 l2 e3 l3 e9 e10 e11 hi hg (J2 @encOp.eq_1 @List.length_map.{0,0})) ?_
    refine AW.st (fun s' => s'.t 1 = .lp 1 0 ∧ s'.l 1 = some [.sl (x.ops.map encOp), .sl (x.from_.map encF)] ∧ s'.t 2 = .lp 2 0 ∧ s'.l 2 = some [.c (.slice none 0 0), .c (.slice none 0 0)] ∧ s'.t 3 = .lp 3 0 ∧ s'.l 3 = some [u, .c (.slice none 0 0)] ∧ s'.t 9 = .sl (x.ops.map encOp) ∧ s'.t 10 = .c (.int .i64 (x.ops.length : Nat)) ∧ s'.t 11 = .c (.int .i64 (i : Nat)) ∧ s'.t 5 = .lp 5 0 ∧ s'.l 5 = some (encOp o)) ?_ ?_
    ·simp only [zs, simprocAttr, e1, l1, e2, l2, e3, l3, e9, e10, e11]
     all_goals ((try and_intros) <;> first | rfl | assumption | (rfl))
    clear e1 l1 e2 l2 e3 l3 e9 e10 e11 s
    rintro s ⟨e1, l1, e2, l2, e3, l3, e9, e10, e11, e5, l5⟩
    refine AW.seq_j (fun s' σ' => ∃ tv cv, ownV tv ∧ ownV cv ∧ s'.t 1 = .lp 1 0 ∧ s'.l 1 = some [.sl (x.ops.map encOp), .sl (x.from_.map encF)] ∧ s'.t 2 = .lp 2 0 ∧ s'.l 2 = some [.c (.slice none 0 0), .c (.slice none 0 0)] ∧ s'.t 3 = .lp 3 0 ∧ s'.l 3 = some [u, .c (.slice none 0 0)] ∧ s'.t 9 = .sl (x.ops.map encOp) ∧ s'.t 10 = .c (.int .i64 (x.ops.length : Nat)) ∧ s'.t 11 = .c (.int .i64 (i : Nat)) ∧ s'.t 5 = .lp 5 0 ∧ s'.l 5 = some (opV o tv cv) ∧
     Stay σ0 σ' ∧ Outer σ0 σ' (41, 7) (RowO σ0 σ') (x.ops.take i) u ∧ RowO σ0 σ' o (opV o tv cv)) ?_ ?_
    ·unfold encOp at l5
     refine AW.dT { sd := fun _ => false } (.st 0 0 (.st 3 0 (.fork 1 (.fork 2 (.st 4 2 (.st 6 0 (.st 5 2 (.st 7 2 (.st 8 0 (.st 9 2 .nil)))))) 4 (.st 2 2 (.st 6 0 (.st 5 2 (.st 7 2 (.st 8 0 (.st 9 2 .nil))))))) 4 (.st 1 2 (.st 2 2 (.st 6 0 (.st 5 2 (.st 7 2 (.st 8 0 (.st 9 2 .nil)))))))))) ?_
     all_goals have q1q := J11 e1 l1 e2 l2 e3 l3 e9 e10 e11 e5 l5
     all_goals iterate 2 refine T.one q1q ?_
     all_goals (try refine T.fork ?_ ?_)
     all_goals refine T.one q1q ?_
     all_goals (try refine T.fork ?_ ?_)
     all_goals have q2q := J11 e1 l1 e2 l2 e3 l3 e9 e10 e11 e5 l5
     all_goals first | (refine T.g rfl trivial rfl rfl fun Y Z => ?_; simp only [zz, simprocAttr, -Int.reduceNatCast', -Int.reduceToNat, q2q]; (refine ACalls.to (ACalls.newList (cloneC_own o.tests (hx.tests o hom)) _) ?_; rintro v1 σ1 hv1; have hw1 := hv1; rcases hw1 with ⟨rfl, _, _⟩ | ⟨kt, rfl, _, _⟩) <;> (refine Z _ _ ?_; clear Z Y)) | (refine T.g rfl trivial rfl rfl fun Y Z => ?_; simp only [zz, simprocAttr, -Int.reduceNatCast', -Int.reduceToNat, tt, q2q]; refine Z _ _ ?_; clear Z Y)
     all_goals have q3q := J11 e1 l1 e2 l2 e3 l3 e9 e10 e11 e5 l5
     all_goals first | (refine T.g rfl trivial rfl rfl fun Y Z => ?_; simp only [zz, simprocAttr, -Int.reduceNatCast', -Int.reduceToNat, q3q]; (refine ACalls.to (ACalls.newList (cloneC_own o.tests (hx.tests o hom)) _) ?_; rintro v1 σ1 hv1; have hw1 := hv1; rcases hw1 with ⟨rfl, _, _⟩ | ⟨kt, rfl, _, _⟩) <;> (refine Z _ _ ?_; clear Z Y)) | (refine T.g rfl trivial rfl rfl fun Y Z => ?_; simp only [zz, simprocAttr, -Int.reduceNatCast', -Int.reduceToNat, tt, q3q]; refine Z _ _ ?_; clear Z Y)
     all_goals refine T.one q3q ?_
     all_goals have q4q := J11 e1 l1 e2 l2 e3 l3 e9 e10 e11 e5 l5
     all_goals (refine T.g rfl trivial rfl rfl fun Y Z => ?_; simp only [zz, simprocAttr, -Int.reduceNatCast', -Int.reduceToNat, q4q]; (refine ACalls.to (ACalls.newList (cloneC_own o.conds (hx.conds o hom)) _) ?_; rintro v2 σ2 hv2; have hw2 := hv2; rcases hw2 with ⟨rfl, _, _⟩ | ⟨kc, rfl, _, _⟩) <;> (refine Z _ _ ?_; clear Z Y))
     all_goals iterate 3 refine T.one q4q ?_
     all_goals refine T.nil ?_
     all_goals simp only [ze, simprocAttr, q4q]
     all_goals
      obtain ⟨hs1, hl1⟩ := new_lst hst (hv1.imp (fun h => ⟨h.1, List.map_eq_nil_iff.2 h.2.1, h.2.2⟩) id)
      obtain ⟨hs2, hl2⟩ := new_lst (hst.trans hs1) (hv2.imp (fun h => ⟨h.1, List.map_eq_nil_iff.2 h.2.1, h.2.2⟩) id)
      refine ⟨_, _, hl1.own, hl2.own, rfl, (hst.trans hs1).trans hs2, hou.mono (hs1.trans hs2) (fun a b h => h.mono (hs1.trans hs2)), _, _, rfl, hl1.mono hs2, hl2⟩
    ·clear e1 l1 e2 l2 e3 l3 e9 e10 e11 e5 l5 hst hou s
     rintro s σ ⟨tv, cv, htv, hcv, e1, l1, e2, l2, e3, l3, e9, e10, e11, e5, l5, hst, hou, hro⟩
     unfold opV at l5 hro
     have z1 := len_r7 (.c (.int .i64 o.kind)) (.c (.string o.var)) (.c (.string o.type)) tv cv (.c (.int .i64 o.win)) (.c (.int .i64 o.ins))
     have y3 : (1 ≤ maxLen) = True := eq_true (by unfold maxLen; omega)
     have y4 : (104 ≤ reach) = True := eq_true (by unfold reach; omega)
     rw [htk]
     rcases hou with ⟨rfl, ht0⟩ | ⟨ko, rows, rfl, hl0, hko0, hko, hal⟩
     ·skip
      refine AW.reg0 ?_
      iterate 4 (refine S.g rfl rfl fun Y Z => ?_; simp only [zb, simprocAttr, -Int.reduceNatCast', -Int.reduceToNat, tt, e1, l1, e2, l2, e3, l3, e9, e10, e11, e5, l5, z1, y3, y4]; refine Z _ _ ?_; clear Z Y)
      all_goals have q5q := J12 e1 l1 e2 l2 e3 l3 e9 e10 e11 e5 l5 (J3 z1 y3 y4)
      all_goals (refine S.g rfl rfl fun Y Z => ?_; simp only [zz, simprocAttr, -Int.reduceNatCast', -Int.reduceToNat, tt, q5q]; intro k1 hk1 <;> (refine Z _ _ ?_; clear Z Y))
      all_goals iterate 2 refine S.one q5q ?_
      all_goals refine S.nil ?_
      all_goals simp only [ze, simprocAttr, q5q]
      obtain ⟨hm1, hs1, hk0⟩ := put_first (T := (41, 7)) (row := [.c (.int .i64 o.kind), .c (.string o.var), .c (.string o.type), tv, cv, .c (.int .i64 o.win), .c (.int .i64 o.ins)]) hst hk1
      refine ⟨.gl k1, rfl, hs1, .inr ⟨k1, _, rfl, by simp, hk0, by simp; rfl, ?_⟩⟩
      rw [ht0]
      exact All2.nil.snoc (hro.moved hm1 (by decide))
     ·have hll := hal.1
      rw [List.length_take] at hll
      have y1 : (rows.length + 1 ≤ maxLen) = True := eq_true (by unfold maxLen; omega)
      have y2 : ((rows.length + 1) * 104 ≤ reach) = True := eq_true (by unfold reach; omega)
      refine AW.reg0 ?_
      iterate 4 (refine S.g rfl rfl fun Y Z => ?_; simp only [zb, simprocAttr, -Int.reduceNatCast', -Int.reduceToNat, tt, e1, l1, e2, l2, e3, l3, e9, e10, e11, e5, l5, hko, z1, y1, y2, y3, y4]; refine Z _ _ ?_; clear Z Y)
      all_goals have q6q := J12 e1 l1 e2 l2 e3 l3 e9 e10 e11 e5 l5 (J6 hko z1 y1 y2 y3 y4)
      all_goals (refine S.g rfl rfl fun Y Z => ?_; simp only [zz, simprocAttr, -Int.reduceNatCast', -Int.reduceToNat, tt, q6q]; intro k1 hk1 <;> (refine Z _ _ ?_; clear Z Y))
      all_goals iterate 2 refine S.one q6q ?_
      all_goals refine S.nil ?_
      all_goals simp only [ze, simprocAttr, q6q]
      have hk1 : k1 = ko ∨ σ.gr k1 = none := by
       by_cases e : k1 = ko
       ·exact .inl e
       ·exact .inr (by simpa [Hp.setGr, e] using hk1)
      obtain ⟨hm1, hs1, hk0⟩ := put_next (rows' := rows ++ [[.c (.int .i64 o.kind), .c (.string o.var), .c (.string o.type), tv, cv, .c (.int .i64 o.win), .c (.int .i64 o.ins)]]) hst hko0 hko hk1
      refine ⟨.gl k1, rfl, hs1, .inr ⟨k1, _, rfl, by simp, hk0, by simp; rfl, ?_⟩⟩
      exact (hal.imp fun a b h => h.moved hm1 (by decide)).snoc (hro.moved hm1 (by decide))
   ·clear e1 l1 e2 l2 e3 l3 e9 e10 e11 hst hou s σ
    rintro s σ ⟨u, e1, l1, e2, l2, e3, l3, hst, hou, e9, e10, e11⟩
    have q7q := J10 e1 l1 e2 l2 e3 l3 e9 e10 e11 hw
    refine AW.reg0 (S.rn q7q ?_)
    simp only [ze, simprocAttr, q7q]
    refine ⟨m - 1, by omega, i + 1, u, by omega, ?_⟩
    exact ⟨rfl, hst, hou, rfl⟩
  ·have hi := of_decide_eq_false hi
   obtain rfl : i = x.ops.length := by omega
   rw [List.take_of_length_le (Nat.le_refl _)] at hou
   refine AW.exit ?_
   refine ⟨u, ?_⟩
   simp only [zs, simprocAttr, e1, l1, e2, l2, e3, l3, e9, e10, e11]
   first | exact ⟨hst, hou⟩ | exact ⟨rfl, hst, hou⟩
 rintro s σ ⟨u, e1, l1, e2, l2, e3, l3, hst, hou⟩
 have hku := hou.kill
 refine AW.seq_j (fun s' σ' => ∃ w, s'.t 2 = .lp 2 0 ∧ s'.l 2 = some [.c (.slice none 0 0), .c (.slice none 0 0)] ∧ s'.t 3 = .lp 3 0 ∧ s'.l 3 = some [u, w] ∧ Stay σ0 σ' ∧ Outer σ0 σ' (41, 7) (RowO σ0 σ') x.ops u ∧ Outer σ0 σ' (48, 1) (RowF σ0 σ') x.from_ w) ?_ ?_
 ·refine AW.sr (J7 e1 l1 e2 l2 e3 l3 @List.length_map.{0,0}) ?_
  refine AW.block ?_   -- 2
  refine AW.loop (fun m s' σ' => ∃ (i : Nat) (w : V), m + i = x.from_.length ∧ s'.t 1 = .lp 1 0 ∧ s'.l 1 = some [.sl (x.ops.map encOp), .sl (x.from_.map encF)] ∧ s'.t 2 = .lp 2 0 ∧ s'.l 2 = some [.c (.slice none 0 0), .c (.slice none 0 0)] ∧ s'.t 3 = .lp 3 0 ∧ s'.l 3 = some [u, w] ∧ Stay σ0 σ' ∧ Outer σ0 σ' (41, 7) (RowO σ0 σ') x.ops u ∧ Outer σ0 σ' (48, 1) (RowF σ0 σ') (x.from_.take i) w ∧
   s'.t 31 = .sl (x.from_.map encF) ∧ s'.t 32 = .c (.int .i64 (x.from_.length : Nat)) ∧ s'.t 33 = .c (.int .i64 (i : Nat))) x.from_.length ?_ ?_
  ·refine ⟨0, .c (.slice none 0 0), by simp, ?_⟩
   simp only [zs, simprocAttr, -Int.reduceNatCast', -Int.reduceToNat, e1, l1, e2, l2, e3, l3]
   exact ⟨hst, hou, .inl ⟨rfl, rfl⟩, rfl⟩
  clear e1 l1 e2 l2 e3 l3 hst hou s σ
  rintro m s σ ⟨i, w, hm, e1, l1, e2, l2, e3, l3, hst, hou, how, e31, e32, e33⟩
  refine AW.sr (J2 e32 e33) ?_
  refine AW.seq_k fun K9 h9 => ?_
  refine AW.cond (b := decide (i < x.from_.length)) (by simp [ev]) (fun hi => ?_) (fun hi => ?_)
  ·have hi := of_decide_eq_true hi
   obtain ⟨f, hf, hfm, hg, htk⟩ := f_get hi
   have hw := wadd1 (a := i) (by omega)
   have hkw := how.kill
   refine AW.skip ?_
   simp only [zs, simprocAttr]
   all_goals apply_assumption
   refine AW.seq_j (fun s' σ' => ∃ w, s'.t 1 = .lp 1 0 ∧ s'.l 1 = some [.sl (x.ops.map encOp), .sl (x.from_.map encF)] ∧ s'.t 2 = .lp 2 0 ∧ s'.l 2 = some [.c (.slice none 0 0), .c (.slice none 0 0)] ∧ s'.t 3 = .lp 3 0 ∧ s'.l 3 = some [u, w] ∧ Stay σ0 σ' ∧ Outer σ0 σ' (41, 7) (RowO σ0 σ') x.ops u ∧ Outer σ0 σ' (48, 1) (RowF σ0 σ') (x.from_.take (i + 1)) w ∧
    s'.t 31 = .sl (x.from_.map encF) ∧ s'.t 32 = .c (.int .i64 (x.from_.length : Nat)) ∧ s'.t 33 = .c (.int .i64 (i : Nat))) ?_ ?_
   ·refine AW.block ?_   -- 3
    refine AW.sr (J12 e1 l1 e2 l2 e3 l3 e31 e32 e33 hi hg (J2 @encF.eq_1 @List.length_map.{0,0})) ?_
    refine AW.st (fun s' => s'.t 1 = .lp 1 0 ∧ s'.l 1 = some [.sl (x.ops.map encOp), .sl (x.from_.map encF)] ∧ s'.t 2 = .lp 2 0 ∧ s'.l 2 = some [.c (.slice none 0 0), .c (.slice none 0 0)] ∧ s'.t 3 = .lp 3 0 ∧ s'.l 3 = some [u, w] ∧ s'.t 31 = .sl (x.from_.map encF) ∧ s'.t 32 = .c (.int .i64 (x.from_.length : Nat)) ∧ s'.t 33 = .c (.int .i64 (i : Nat)) ∧ s'.t 7 = .sl (f.map encI)) ?_ ?_
    ·simp only [zs, simprocAttr, e1, l1, e2, l2, e3, l3, e31, e32, e33]
     all_goals ((try and_intros) <;> first | rfl | assumption | (rfl))
    clear e1 l1 e2 l2 e3 l3 e31 e32 e33 s
    rintro s ⟨e1, l1, e2, l2, e3, l3, e31, e32, e33, e7⟩
    have y3 : (1 ≤ maxLen) = True := eq_true (by unfold maxLen; omega)
    have y4 : (24 ≤ reach) = True := eq_true (by unfold reach; omega)
    have z1 := len_r1 (.sl [])
    have z2 : ∀ k, (∀ (r : List V), r ∈ [[V.gl k]] → r.length = 1) = True := fun k => len_r1 (.gl k)
    rw [htk]
    rcases how with ⟨rfl, ht0⟩ | ⟨ko, rows, rfl, hl0, hko0, hko, hal⟩
    ·skip
     refine AW.dT { sd := fun _ => false } (.st 0 0 (.st 2 0 (.fork 1 (.st 3 2 (.st 4 2 (.st 5 2 (.st 6 0 (.st 7 2 .nil))))) 3 (.fork 1 (.st 4 2 (.st 5 2 (.st 6 0 (.st 7 2 .nil)))) 4 (.st 1 2 (.st 5 2 (.st 6 0 (.st 7 2 .nil)))))))) ?_
     all_goals iterate 2 refine T.one (J12 e1 l1 e2 l2 e3 l3 e31 e32 e33 e7 z1 (J3 z2 y3 y4)) ?_
     all_goals (try refine T.fork ?_ ?_)
     all_goals have q8q := J12 e1 l1 e2 l2 e3 l3 e31 e32 e33 e7 z1 (J3 z2 y3 y4)
     all_goals first | (refine T.g rfl trivial rfl rfl fun Y Z => ?_; simp only [zz, simprocAttr, -Int.reduceNatCast', -Int.reduceToNat, q8q]; (refine ACalls.to (ACalls.newList (cloneI_own f (hx.fr f hfm)) _) ?_; rintro v1 σ1 hv1; have hw1 := hv1; rcases hw1 with ⟨rfl, _, _⟩ | ⟨kt, rfl, _, _⟩ <;> first | have hko1 := (new_lst hst (hv1.imp (fun h => ⟨h.1, List.map_eq_nil_iff.2 h.2.1, h.2.2⟩) id)).1.gr ko _ hko | have hko1 : True := trivial) <;> (refine Z _ _ ?_; clear Z Y)) | (refine T.g rfl trivial rfl rfl fun Y Z => ?_; simp only [zz, simprocAttr, -Int.reduceNatCast', -Int.reduceToNat, tt, q8q]; refine Z _ _ ?_; clear Z Y)
     all_goals (try refine T.fork ?_ ?_)
     all_goals have q9q := J12 e1 l1 e2 l2 e3 l3 e31 e32 e33 e7 z1 (J3 z2 y3 y4)
     all_goals first | (refine T.g rfl trivial rfl rfl fun Y Z => ?_; simp only [zz, simprocAttr, -Int.reduceNatCast', -Int.reduceToNat, q9q]; (refine ACalls.to (ACalls.newList (cloneI_own f (hx.fr f hfm)) _) ?_; rintro v1 σ1 hv1; have hw1 := hv1; rcases hw1 with ⟨rfl, _, _⟩ | ⟨kt, rfl, _, _⟩ <;> first | have hko1 := (new_lst hst (hv1.imp (fun h => ⟨h.1, List.map_eq_nil_iff.2 h.2.1, h.2.2⟩) id)).1.gr ko _ hko | have hko1 : True := trivial) <;> (refine Z _ _ ?_; clear Z Y)) | (refine T.g rfl trivial rfl rfl fun Y Z => ?_; simp only [zz, simprocAttr, -Int.reduceNatCast', -Int.reduceToNat, tt, q9q]; refine Z _ _ ?_; clear Z Y) | (refine T.g rfl trivial rfl rfl fun Y Z => ?_; simp only [zb, simprocAttr, -Int.reduceNatCast', -Int.reduceToNat, tt, e1, l1, e2, l2, e3, l3, e31, e32, e33, e7, z1, z2, y3, y4]; refine Z _ _ ?_; clear Z Y)
     all_goals first | (refine T.g rfl trivial rfl rfl fun Y Z => ?_; simp only [zb, simprocAttr, -Int.reduceNatCast', -Int.reduceToNat, tt, e1, l1, e2, l2, e3, l3, e31, e32, e33, e7, z1, z2, y3, y4]; refine Z _ _ ?_; clear Z Y) | (refine T.g rfl trivial rfl rfl fun Y Z => ?_; simp only [zz, simprocAttr, -Int.reduceNatCast', -Int.reduceToNat, tt, e1, l1, e2, l2, e3, l3, e31, e32, e33, e7, z1, z2, y3, y4]; refine Z _ _ ?_; clear Z Y)
     all_goals (refine T.g rfl trivial rfl rfl fun Y Z => ?_; simp only [zz, simprocAttr, -Int.reduceNatCast', -Int.reduceToNat, tt, e1, l1, e2, l2, e3, l3, e31, e32, e33, e7, z1, z2, y3, y4, hko1]; intro k1 hk1 <;> (refine Z _ _ ?_; clear Z Y))
     all_goals have q10q := J12 e1 l1 e2 l2 e3 l3 e31 e32 e33 e7 z1 (J3 z2 y3 y4)
     all_goals iterate 2 refine T.one q10q ?_
     all_goals refine T.nil ?_
     all_goals simp only [ze, simprocAttr, q10q]
     all_goals
      obtain ⟨hs1, hl1⟩ := new_lst hst (hv1.imp (fun h => ⟨h.1, List.map_eq_nil_iff.2 h.2.1, h.2.2⟩) id)
      obtain ⟨hm1, hs2, hk0⟩ := put_first (T := (48, 1)) (row := [_]) (hst.trans hs1) hk1
      exact ⟨.gl k1, rfl, hs2, (hou.mono hs1 fun a b h => h.mono hs1).moved hm1 (by decide) (fun a b h => h.moved hm1 (by decide)), .inr ⟨k1, _, rfl, by simp, hk0, by simp; rfl, by rw [ht0]; exact All2.nil.snoc ⟨_, rfl, hl1.moved hm1 (by decide)⟩⟩⟩
    ·have hll := hal.1
     rw [List.length_take] at hll
     have y1 : (rows.length + 1 ≤ maxLen) = True := eq_true (by unfold maxLen; omega)
     have y2 : ((rows.length + 1) * 24 ≤ reach) = True := eq_true (by unfold reach; omega)
     refine AW.dT { sd := fun _ => false } (.st 0 0 (.st 2 0 (.fork 1 (.st 3 2 (.st 4 2 (.st 5 2 (.st 6 0 (.st 7 2 .nil))))) 3 (.fork 1 (.st 4 2 (.st 5 2 (.st 6 0 (.st 7 2 .nil)))) 4 (.st 1 2 (.st 5 2 (.st 6 0 (.st 7 2 .nil)))))))) ?_
     all_goals iterate 2 refine T.one (J12 e1 l1 e2 l2 e3 l3 e31 e32 e33 e7 hko (J6 z1 z2 y1 y2 y3 y4)) ?_
     all_goals (try refine T.fork ?_ ?_)
     all_goals have q11q := J12 e1 l1 e2 l2 e3 l3 e31 e32 e33 e7 hko (J6 z1 z2 y1 y2 y3 y4)
     all_goals first | (refine T.g rfl trivial rfl rfl fun Y Z => ?_; simp only [zz, simprocAttr, -Int.reduceNatCast', -Int.reduceToNat, q11q]; (refine ACalls.to (ACalls.newList (cloneI_own f (hx.fr f hfm)) _) ?_; rintro v1 σ1 hv1; have hw1 := hv1; rcases hw1 with ⟨rfl, _, _⟩ | ⟨kt, rfl, _, _⟩ <;> first | have hko1 := (new_lst hst (hv1.imp (fun h => ⟨h.1, List.map_eq_nil_iff.2 h.2.1, h.2.2⟩) id)).1.gr ko _ hko | have hko1 : True := trivial) <;> (refine Z _ _ ?_; clear Z Y)) | (refine T.g rfl trivial rfl rfl fun Y Z => ?_; simp only [zz, simprocAttr, -Int.reduceNatCast', -Int.reduceToNat, tt, q11q]; refine Z _ _ ?_; clear Z Y)
     all_goals (try refine T.fork ?_ ?_)
     all_goals have q12q := J12 e1 l1 e2 l2 e3 l3 e31 e32 e33 e7 hko (J6 z1 z2 y1 y2 y3 y4)
     all_goals first | (refine T.g rfl trivial rfl rfl fun Y Z => ?_; simp only [zz, simprocAttr, -Int.reduceNatCast', -Int.reduceToNat, q12q]; (refine ACalls.to (ACalls.newList (cloneI_own f (hx.fr f hfm)) _) ?_; rintro v1 σ1 hv1; have hw1 := hv1; rcases hw1 with ⟨rfl, _, _⟩ | ⟨kt, rfl, _, _⟩ <;> first | have hko1 := (new_lst hst (hv1.imp (fun h => ⟨h.1, List.map_eq_nil_iff.2 h.2.1, h.2.2⟩) id)).1.gr ko _ hko | have hko1 : True := trivial) <;> (refine Z _ _ ?_; clear Z Y)) | (refine T.g rfl trivial rfl rfl fun Y Z => ?_; simp only [zz, simprocAttr, -Int.reduceNatCast', -Int.reduceToNat, tt, q12q]; refine Z _ _ ?_; clear Z Y) | (refine T.g rfl trivial rfl rfl fun Y Z => ?_; simp only [zb, simprocAttr, -Int.reduceNatCast', -Int.reduceToNat, tt, e1, l1, e2, l2, e3, l3, e31, e32, e33, e7, hko, z1, z2, y1, y2, y3, y4]; refine Z _ _ ?_; clear Z Y)
     all_goals first | (refine T.g rfl trivial rfl rfl fun Y Z => ?_; simp only [zb, simprocAttr, -Int.reduceNatCast', -Int.reduceToNat, tt, e1, l1, e2, l2, e3, l3, e31, e32, e33, e7, hko, z1, z2, y1, y2, y3, y4]; refine Z _ _ ?_; clear Z Y) | (refine T.g rfl trivial rfl rfl fun Y Z => ?_; simp only [zz, simprocAttr, -Int.reduceNatCast', -Int.reduceToNat, tt, e1, l1, e2, l2, e3, l3, e31, e32, e33, e7, hko, z1, z2, y1, y2, y3, y4]; refine Z _ _ ?_; clear Z Y)
     all_goals (refine T.g rfl trivial rfl rfl fun Y Z => ?_; simp only [zz, simprocAttr, -Int.reduceNatCast', -Int.reduceToNat, tt, e1, l1, e2, l2, e3, l3, e31, e32, e33, e7, hko, z1, z2, y1, y2, y3, y4, hko1]; intro k1 hk1 <;> (refine Z _ _ ?_; clear Z Y))
     all_goals have q13q := J12 e1 l1 e2 l2 e3 l3 e31 e32 e33 e7 hko (J6 z1 z2 y1 y2 y3 y4)
     all_goals iterate 2 refine T.one q13q ?_
     all_goals refine T.nil ?_
     all_goals simp only [ze, simprocAttr, q13q]
     all_goals
      obtain ⟨hs1, hl1⟩ := new_lst hst (hv1.imp (fun h => ⟨h.1, List.map_eq_nil_iff.2 h.2.1, h.2.2⟩) id)
      have hk1 : k1 = ko ∨ σ1.gr k1 = none := by
       by_cases e : k1 = ko
       ·exact .inl e
       ·exact .inr (by simpa [Hp.setGr, e] using hk1)
      obtain ⟨hm1, hs2, hk0⟩ := put_next (rows' := rows ++ [[_]]) (hst.trans hs1) hko0 hko1 hk1
      exact ⟨.gl k1, rfl, hs2, (hou.mono hs1 fun a b h => h.mono hs1).moved hm1 (by decide) (fun a b h => h.moved hm1 (by decide)), .inr ⟨k1, _, rfl, by simp, hk0, by simp, (hal.imp fun a b h => (h.mono hs1).moved hm1 (by decide)).snoc ⟨_, rfl, hl1.moved hm1 (by decide)⟩⟩⟩
   ·clear e1 l1 e2 l2 e3 l3 e31 e32 e33 hst hou how hkw s σ
    rintro s σ ⟨w, e1, l1, e2, l2, e3, l3, hst, hou, how, e31, e32, e33⟩
    have q14q := J10 e1 l1 e2 l2 e3 l3 e31 e32 e33 hw
    refine AW.reg0 (S.rn q14q ?_)
    simp only [ze, simprocAttr, q14q]
    refine ⟨m - 1, by omega, i + 1, w, by omega, ?_⟩
    exact ⟨rfl, hst, hou, how, rfl⟩
  ·have hi := of_decide_eq_false hi
   obtain rfl : i = x.from_.length := by omega
   rw [List.take_of_length_le (Nat.le_refl _)] at how
   refine AW.exit ?_
   refine ⟨w, ?_⟩
   simp only [zs, simprocAttr, e1, l1, e2, l2, e3, l3, e31, e32, e33]
   first | exact ⟨hst, hou, how⟩ | exact ⟨rfl, hst, hou, how⟩
 clear e1 l1 e2 l2 e3 l3 hst hou s σ
 rintro s σ ⟨w, e2, l2, e3, l3, hst, hou, how⟩
 refine AW.seq_j (fun s' σ' => σ' = σ ∧ s'.t 2 = .lp 2 0 ∧ s'.l 2 = some [u, w]) ?_ ?_
 ·skip
  have q15q := J4 e2 l2 e3 l3
  refine AW.reg0 (S.rn q15q ?_)
  simp only [ze, simprocAttr, q15q]
  all_goals ((try and_intros) <;> first | rfl | assumption | (rfl))
 clear e2 l2 e3 l3 s
 rintro s σ1 ⟨rfl, e2, l2⟩
 refine AW.ret ?_
 all_goals simp only [zs, simprocAttr, tt, cut, List.drop_zero, List.take_succ_cons, List.take_zero, e2, l2]
 all_goals simp only [zz, Bool.false_eq_true, if_true, simprocAttr, not_false_eq_true, true_and, e2, l2]
 exact ⟨u, w, rfl, hst, hou, how⟩
theorem Lst.thaw {σ0 σ π : Hp} {T : TypeId × Nat} {es : List (List V)} {v : V} (h : Lst σ0 σ T es v) (hπ : ∀ k x, σ0.gr k = none → σ.gr k = some x → π.gr k = some x) : Go.Abs.thaw π 1 v = .sl es := by
 rcases h with ⟨rfl, rfl⟩ | ⟨k, rfl, h1, h2⟩
 ·rfl
 ·simp only [Go.Abs.thaw, hπ k _ h1 h2]
  congr 1
  simp
theorem Outer.thaw {α : Type} {σ0 σ π : Hp} {T : TypeId × Nat} {R : α → List V → Prop} {l : List α} {u : V} {f : α → List V} (h : Outer σ0 σ T R l u) (hπ : ∀ k x, σ0.gr k = none → σ.gr k = some x → π.gr k = some x) (hR : ∀ a r, R a r → r.map (Go.Abs.thaw π 1) = f a) : Go.Abs.thaw π 2 (wk1 u) = .sl (l.map f) := by
 rcases h with ⟨rfl, rfl⟩ | ⟨k, rows, rfl, _, h1, h2, h3⟩
 ·rfl
 ·show Go.Abs.thaw π 2 (.gl k) = _
  simp only [Go.Abs.thaw, hπ k _ h1 h2]
  congr 1
  refine List.ext_getElem (by simp [h3.1]) fun i hi hj => ?_
  simp only [List.getElem_map]
  simp only [List.length_map] at hi hj
  exact hR _ _ (h3.2 i _ _ (List.getElem?_eq_getElem hj) (List.getElem?_eq_getElem hi))
theorem twin_thaw {x : Pln} {σ0 σ π : Hp} {u w : V} (h : TwinH x σ0 u w σ) (hπ : ∀ k y, σ0.gr k = none → σ.gr k = some y → π.gr k = some y) : thaw π 2 (wk1 u) = .sl (x.ops.map encOp) ∧ thaw π 2 (wk1 w) = .sl (x.from_.map encF) := by
 refine ⟨h.2.1.thaw hπ fun o r ⟨tv, cv, hr, ht, hc⟩ => ?_, h.2.2.thaw hπ fun f r ⟨v, hr, hv⟩ => ?_⟩
 ·rw [hr]
  have h1 := ht.thaw hπ
  have h2 := hc.thaw hπ
  show [_, _, _, thaw π 1 tv, thaw π 1 cv, _, _] = encOp o
  rw [h1, h2]; rfl
 ·rw [hr]
  show [thaw π 1 v] = encF f
  rw [hv.thaw hπ]; rfl
theorem Outer.wk {α : Type} {σ0 σ : Hp} {T : TypeId × Nat} {R : α → List V → Prop} {l : List α} {u : V} (h : Outer σ0 σ T R l u) : (wk1 u = .sl [] ∧ l = []) ∨ ∃ k rows, wk1 u = .gl k ∧ l ≠ [] ∧ σ0.gr k = none ∧ σ.gr k = some (T, rows) ∧ All2 R l rows := by
 rcases h with ⟨rfl, h⟩ | ⟨k, rows, rfl, h⟩
 ·exact .inl ⟨rfl, h⟩
 ·exact .inr ⟨k, rows, rfl, h⟩
theorem Outer.wk2 {α : Type} {σ0 σ : Hp} {T : TypeId × Nat} {R : α → List V → Prop} {l : List α} {u : V} (h : Outer σ0 σ T R l u) : wk1 (wk1 u) = wk1 u := by
 rcases h with ⟨rfl, h⟩ | ⟨k, rows, rfl, h⟩ <;> rfl
theorem over_self {σ0 σ : Hp} (h : Hp.Le σ0 σ) : σ0.over σ σ0 = σ := by
 refine Hp.eqs (fun g => ?_) (fun k => ?_)
 ·simp only [Hp.over]
  cases e : σ0.obj g with
  | none => rfl
  | some c => rw [h.obj g c e]
 ·simp only [Hp.over]
  cases e : σ0.gr k with
  | none => rfl
  | some c => rw [h.gr k c e]
theorem live_at {tq : Nat × Nat × Nat} {σ : Hp} (h : Hp.Le (tabH tq) σ) : ACalls Tryz.prog 8 [] σ (fun v σ' => v = .c (.bool true) ∧ σ' = σ) :=
 ((live_spec (tq := tq)).frame h).mono fun v σ' ⟨σ1, ⟨h1, h2⟩, _, h3⟩ => ⟨h2, by rw [h3, h1, over_self h]⟩
def Wl (σ : Hp) (T : TypeId × Nat) (n : Nat) (v : V) : Prop := (v = .sl [] ∧ n = 0) ∨ ∃ k es, v = .gl k ∧ σ.gr k = some (T, es) ∧ es.length = n ∧ ∀ e ∈ es, e.length = T.2
structure WOps (σ : Hp) (x : Pln) (ko : Nat) (rows : List (List V)) (cs : Nat → V) : Prop where
  at_ : σ.gr ko = some ((41, 7), rows)
  len : rows.length = x.ops.length
  row : ∀ (i : Nat) (o : OpS), x.ops[i]? = some o → (rows.getD i []).length = 7 ∧ (rows.getD i []).getD 4 .junk = cs i ∧ Wl σ (47, 11) o.conds.length (cs i)
structure WFrom (σ : Hp) (x : Pln) (kf : Nat) (rows : List (List V)) (cs : Nat → V) : Prop where
  at_ : σ.gr kf = some ((48, 1), rows)
  len : rows.length = x.from_.length
  row : ∀ (i : Nat) (f : List Int), x.from_[i]? = some f → rows.getD i [] = [cs i] ∧ Wl σ (3, 1) f.length (cs i)
structure Shaped (σ σ' : Hp) (k0 : Nat) (T : TypeId × Nat) : Prop where
  obj : ∀ g, σ'.obj g = σ.obj g
  gr : ∀ k, k ≠ k0 → σ'.gr k = σ.gr k
  at_ : ∃ es es', σ.gr k0 = some (T, es) ∧ σ'.gr k0 = some (T, es') ∧ es'.length = es.length ∧ ((∀ e ∈ es, e.length = T.2) → ∀ e ∈ es', e.length = T.2)
theorem Wl.shaped {σ σ' : Hp} {T T' : TypeId × Nat} {n k0 : Nat} {v : V} (h : Wl σ T n v) (hs : Shaped σ σ' k0 T') : Wl σ' T n v := by
 rcases h with h | ⟨k, es, h1, h2, h3, h4⟩
 ·exact .inl h
 ·by_cases e : k = k0
  ·subst e
   obtain ⟨fs, fs', g1, g2, g3, g4⟩ := hs.at_
   rw [h2] at g1
   injection g1 with g1
   injection g1 with g0 g1
   subst g0; subst g1
   exact .inr ⟨k, fs', h1, g2, by omega, g4 h4⟩
  ·exact .inr ⟨k, es, h1, (hs.gr k e).trans h2, h3, h4⟩
theorem WOps.shaped {σ σ' : Hp} {x : Pln} {ko k0 : Nat} {rows : List (List V)} {cs : Nat → V} {T : TypeId × Nat} (h : WOps σ x ko rows cs) (hs : Shaped σ σ' k0 T) (hne : ko ≠ k0) : WOps σ' x ko rows cs :=
 ⟨(hs.gr ko hne).trans h.at_, h.len, fun i o ho => by obtain ⟨h1, h2, h3⟩ := h.row i o ho; exact ⟨h1, h2, h3.shaped hs⟩⟩
theorem WFrom.shaped {σ σ' : Hp} {x : Pln} {kf k0 : Nat} {rows : List (List V)} {cs : Nat → V} {T : TypeId × Nat} (h : WFrom σ x kf rows cs) (hs : Shaped σ σ' k0 T) (hne : kf ≠ k0) : WFrom σ' x kf rows cs :=
 ⟨(hs.gr kf hne).trans h.at_, h.len, fun i o ho => by obtain ⟨h1, h2⟩ := h.row i o ho; exact ⟨h1, h2.shaped hs⟩⟩
theorem splice_len {r vs : List V} {o : Nat} (h : o + vs.length ≤ r.length) : (splice r o vs).length = r.length := by
 simp [splice]; omega
theorem shaped_set {σ : Hp} {k i : Nat} {T : TypeId × Nat} {es : List (List V)} {r : List V} (h : σ.gr k = some (T, es)) (hr : r.length = T.2) : Shaped σ (σ.setGr k (some (T, es.set i r))) k T :=
 ⟨fun _ => rfl, fun j hj => by simp [hj], es, es.set i r, h, by simp, by simp, fun hh e he => by
  rcases List.mem_or_eq_of_mem_set he with h1 | h1
  ·exact hh e h1
  ·rw [h1]; exact hr⟩
theorem ne_type {σ : Hp} {k j : Nat} {T T' : TypeId × Nat} {es es' : List (List V)} (h : σ.gr k = some (T, es)) (h' : σ.gr j = some (T', es')) (hne : T ≠ T') : k ≠ j := fun e => by
 subst e
 rw [h] at h'
 injection h' with h'
 injection h' with h'
 exact hne h'
theorem WOps.set {σ : Hp} {x : Pln} {ko i : Nat} {rows : List (List V)} {cs : Nat → V} {r : List V} (h : WOps σ x ko rows cs) (hr : r.length = 7) (h4 : r.getD 4 .junk = (rows.getD i []).getD 4 .junk) : WOps (σ.setGr ko (some ((41, 7), rows.set i r))) x ko (rows.set i r) cs := by
 have hs := shaped_set (i := i) h.at_ hr
 refine ⟨by simp, by simpa using h.len, fun j o ho => ?_⟩
 obtain ⟨h1, h2, h3⟩ := h.row j o ho
 have hj : j < rows.length := by rw [h.len]; exact (List.getElem?_eq_some_iff.1 ho).1
 by_cases e : i = j
 ·subst e
  have hg : (rows.set i r).getD i [] = r := by simp [List.getD, hj]
  rw [hg]
  exact ⟨hr, h4.trans h2, h3.shaped hs⟩
 ·have hg : (rows.set i r).getD j [] = rows.getD j [] := by simp [List.getD, List.getElem?_set_ne e]
  rw [hg]
  exact ⟨h1, h2, h3.shaped hs⟩
theorem wops_of {x : Pln} {σ0 σ : Hp} {k : Nat} {rows : List (List V)} (hk : σ.gr k = some ((41, 7), rows)) (ha : All2 (RowO σ0 σ) x.ops rows) : ∃ cs, WOps σ x k rows cs := by
 refine ⟨fun i => (rows.getD i []).getD 4 .junk, hk, ha.1.symm, fun i o ho => ?_⟩
 have hi : i < rows.length := by rw [← ha.1]; exact (List.getElem?_eq_some_iff.1 ho).1
 obtain ⟨tv, cv, hr, _, hc⟩ := ha.2 i o rows[i] ho (List.getElem?_eq_getElem hi)
 have hg : rows.getD i [] = rows[i] := by simp [List.getD, hi]
 rw [hg, hr]
 refine ⟨rfl, rfl, ?_⟩
 show Wl σ (47, 11) o.conds.length cv
 rcases hc with ⟨h1, h2⟩ | ⟨q, h1, _, h2⟩
 ·exact .inl ⟨h1, by have := congrArg List.length h2; simpa using this⟩
 ·exact .inr ⟨q, _, h1, h2, by simp, fun e he => len_cs _ e he⟩
theorem wfrom_of {x : Pln} {σ0 σ : Hp} {k : Nat} {rows : List (List V)} (hk : σ.gr k = some ((48, 1), rows)) (ha : All2 (RowF σ0 σ) x.from_ rows) : ∃ cs, WFrom σ x k rows cs := by
 refine ⟨fun i => (rows.getD i []).getD 0 .junk, hk, ha.1.symm, fun i f hf => ?_⟩
 have hi : i < rows.length := by rw [← ha.1]; exact (List.getElem?_eq_some_iff.1 hf).1
 obtain ⟨v, hr, hc⟩ := ha.2 i f rows[i] hf (List.getElem?_eq_getElem hi)
 have hg : rows.getD i [] = rows[i] := by simp [List.getD, hi]
 rw [hg, hr]
 refine ⟨rfl, ?_⟩
 show Wl σ (3, 1) f.length v
 rcases hc with ⟨h1, h2⟩ | ⟨q, h1, _, h2⟩
 ·exact .inl ⟨h1, by have := congrArg List.length h2; simpa using this⟩
 ·exact .inr ⟨q, _, h1, h2, by simp, fun e he => len_is _ e he⟩
theorem fit_ok {x : Pln} (h : fitPl x) : okPl x := by
 have h1 := h.ops
 have h2 := h.from_
 unfold reach at h1 h2
 refine ⟨by omega, by omega, fun o ho => ?_, fun f hf => ?_⟩
 ·have h3 := h.tests o ho
  have h4 := h.conds o ho
  unfold reach at h3 h4
  exact ⟨by omega, by omega⟩
 ·have h3 := h.fr f hf
  unfold reach at h3
  omega
def rest (σ σ2 : Hp) : Hp := ⟨fun _ => none, fun k => match σ.gr k with | some _ => none | none => σ2.gr k⟩
theorem rest_le (σ σ2 : Hp) : Hp.Le (rest σ σ2) σ2 := ⟨fun _ _ h => (by cases h), fun k x h => by
 simp only [rest] at h
 split at h
 ·cases h
 ·exact h⟩
theorem rest_apart (σ σ2 : Hp) : Hp.Apart σ (rest σ σ2) := ⟨fun _ => .inr rfl, fun k => by
 cases h : σ.gr k with
 | none => exact .inl rfl
 | some x => exact .inr (by simp [rest, h])⟩
def OpI (x : Pln) (U : V) (σ : Hp) : Prop := (U = .sl [] ∧ x.ops = []) ∨ ∃ ko rows cs, U = .gl ko ∧ WOps σ x ko rows cs
def FrI (x : Pln) (W : V) (σ : Hp) : Prop := (W = .sl [] ∧ x.from_ = []) ∨ ∃ kf rows cs, W = .gl kf ∧ WFrom σ x kf rows cs
def INV (x : Pln) (U W : V) (tq : Nat × Nat × Nat) (σ : Hp) : Prop := σ.obj 0 = some (tabV tq) ∧ OpI x U σ ∧ FrI x W σ
theorem FrI.shaped {x : Pln} {W : V} {σ σ' : Hp} {k0 : Nat} {T : TypeId × Nat} (h : FrI x W σ) (hs : Shaped σ σ' k0 T) (hne : (48, 1) ≠ T) : FrI x W σ' := by
 rcases h with h | ⟨kf, rows, cs, h1, h2⟩
 ·exact .inl h
 ·obtain ⟨es, es', g1, _⟩ := hs.at_
  exact .inr ⟨kf, rows, cs, h1, h2.shaped hs (ne_type h2.at_ g1 hne)⟩
theorem splice_0 {r : List V} {v : V} (h : r.length = 7) : (splice r 0 [v]).getD 4 .junk = r.getD 4 .junk := by
 match r, h with
 | [a, b, c, d, e, f, g], _ => rfl
theorem planSame_law {tq : Nat × Nat × Nat} (a b : Pln) (ha : fitPl a) (hb : fitPl b) :
  ACalls Tryz.prog 4 [.agg (encPl a), .agg (encPl b)] (tabH tq) (fun v σ' => σ' = tabH tq ∧ v = .c (.bool true)) := by
 refine ACalls.keepH (R := fun v σ' => σ'.obj 0 = some (tabV tq) ∧ v = .c (.bool true)) ?_ fun v σ' ⟨h1, h2⟩ => ⟨(kept_tab h1).1, (kept_tab h1).2, rfl, h2⟩
 have hoa := fit_ok ha
 have hab := Same_spec a b hoa
 have hrab := rSame_spec a b hoa
 have hraa := rSame_spec a a hoa
 have haa := Same_spec a a hoa
 rw [samePl_refl] at hraa haa
 have hln1 := ha.ops
 have hln2 := ha.from_
 unfold reach at hln1 hln2
 refine ACalls.intro Tryz.call4 Tryz.func4 rfl Tryz.ntmps4 Tryz.results4 (by simp) ?_
 refine AW.seq_k fun K1 h1 => ?_
 refine AW.reg0 ?_
 iterate 3 (refine S.g rfl rfl fun Y Z => ?_; simp only [zz, reduceIte, Nat.reduceEqDiff, Nat.reduceLT, Nat.reduceLeDiff, Nat.reduceAdd, reduceCtorEq, Nat.reduceMul, tt, encPl]; refine Z _ _ ?_; clear Z Y)
 all_goals (refine S.nil ?_; simp only [ze, reduceIte, Nat.reduceEqDiff, Nat.reduceLT, Nat.reduceLeDiff, Nat.reduceAdd, reduceCtorEq, Nat.reduceMul, encPl]; apply_assumption)
 refine AW.seq_j (fun s' σ' => ∃ u w, TwinH a (tabH tq) u w σ' ∧ s'.t 2 = .lp 2 0 ∧ s'.l 2 = some [.sl (a.ops.map encOp), .sl (a.from_.map encF)] ∧ s'.t 3 = .lp 3 0 ∧ s'.l 3 = some [.sl (b.ops.map encOp), .sl (b.from_.map encF)] ∧ s'.t 5 = .lp 5 0 ∧ s'.l 5 = some [wk1 u, wk1 w]) ?_ ?_
 ·skip
  refine AW.reg0 ?_
  (refine S.g rfl rfl fun Y Z => ?_; simp only [zz, reduceIte, Nat.reduceEqDiff, Nat.reduceLT, Nat.reduceLeDiff, Nat.reduceAdd, reduceCtorEq, Nat.reduceMul, tt, encPl]; refine Z _ _ ?_; clear Z Y)
  all_goals (refine S.g rfl rfl fun Y Z => ?_; simp only [zz, reduceIte, Nat.reduceEqDiff, Nat.reduceLT, Nat.reduceLeDiff, Nat.reduceAdd, reduceCtorEq, Nat.reduceMul, encPl]; (refine ACalls.to (clonePl_spec a ha (tabH tq)) ?_; rintro v1 σ1 ⟨u, w, rfl, htw⟩) <;> (refine Z _ _ ?_; clear Z Y))
  all_goals iterate 2 (refine S.g rfl rfl fun Y Z => ?_; simp only [zz, reduceIte, Nat.reduceEqDiff, Nat.reduceLT, Nat.reduceLeDiff, Nat.reduceAdd, reduceCtorEq, Nat.reduceMul, tt, encPl]; refine Z _ _ ?_; clear Z Y)
  all_goals refine S.nil ?_
  all_goals simp only [ze, reduceIte, Nat.reduceEqDiff, Nat.reduceLT, Nat.reduceLeDiff, Nat.reduceAdd, reduceCtorEq, Nat.reduceMul, encPl]
  refine ⟨u, w, htw, ?_⟩
  all_goals ((try and_intros) <;> first | rfl | assumption | (rfl))
 rintro s σ ⟨u, w, htw, e2, l2, e3, l3, e5, l5⟩
 have hle : Hp.Le (tabH tq) σ := ⟨fun g c h => (htw.1.obj g).trans h, htw.1.gr⟩
 obtain ⟨ht1, ht2⟩ := twin_thaw (π := σ) htw fun k y _ h => h
 have hwu := htw.2.1.wk2
 have hww := htw.2.2.wk2
 have hpa : PCalls Tryz.prog 13 ([V.agg (encPl a), .agg [wk1 u, wk1 w]].map (thaw σ 3)) (fun v => v = .c (.bool true)) := by
  show PCalls Tryz.prog 13 [V.agg (encPl a), .agg [thaw σ 2 (wk1 u), thaw σ 2 (wk1 w)]] _
  rw [ht1, ht2]; exact haa
 have hpr : PCalls Tryz.prog 11 ([V.agg (encPl a), .agg [wk1 u, wk1 w]].map (thaw σ 3)) (fun v => v = .c (.bool true)) := by
  show PCalls Tryz.prog 11 [V.agg (encPl a), .agg [thaw σ 2 (wk1 u), thaw σ 2 (wk1 w)]] _
  rw [ht1, ht2]; exact hraa
 have hac := PCalls.lendAll (σ := σ) 3 hpa fun v h => by rw [h]; rfl
 have hrac := PCalls.lendAll (σ := σ) 3 hpr fun v h => by rw [h]; rfl
 unfold encPl at hab hrab hac hrac hraa
 generalize hU : wk1 u = U at l5 hwu ht1 hac hrac
 generalize hW : wk1 w = Wc at l5 hww ht2 hac hrac
 refine AW.seq_j (fun s' σ' => σ' = σ ∧ s'.t 2 = .lp 2 0 ∧ s'.l 2 = some [.sl (a.ops.map encOp), .sl (a.from_.map encF)] ∧ s'.t 5 = .lp 5 0 ∧ s'.l 5 = some [U, Wc]) ?_ ?_
 ·refine AW.seq_j (fun s' σ' => σ' = σ ∧ s'.t 2 = .lp 2 0 ∧ s'.l 2 = some [.sl (a.ops.map encOp), .sl (a.from_.map encF)] ∧ s'.t 5 = .lp 5 0 ∧ s'.l 5 = some [U, Wc] ∧ s'.t 35 = .c (.bool false)) ?_ ?_
  ·cases hsab : samePl a b <;> rw [hsab] at hab hrab
   all_goals refine AW.dT { sd := fun d => d == 2 || d == 3 || d == 5 } (.st 0 2 (.st 1 0 (.st 2 0 (.st 3 1 (.st 4 1 (.st 6 1 (.st 7 1 (.st 5 2 (.st 8 2 (.st 9 0 (.st 10 0 (.st 11 0 (.st 12 1 (.st 13 1 (.st 14 2 (.st 15 0 (.st 16 0 (.st 17 0 (.st 18 1 (.st 19 1 (.st 20 2 (.st 21 0 (.st 22 0 .nil))))))))))))))))))))))) ?_
   all_goals (refine T.g rfl trivial rfl rfl fun Y Z => ?_; simp only [zz, reduceIte, Nat.reduceEqDiff, Nat.reduceLT, Nat.reduceLeDiff, Nat.reduceAdd, reduceCtorEq, Nat.reduceMul, Nat.reduceBEq, Bool.or_self, kill, e2, l2, e3, l3, e5, l5, hwu, hww]; (refine ACalls.to (live_at hle) ?_; rintro v1 σ2 ⟨rfl, hs2⟩; have hs2 := hs2.symm; subst hs2); refine S.bool fun b a13 => ?_; cases b <;> (try exact nope a13) <;> (refine Z _ _ ?_; clear Z Y))
   all_goals iterate 2 (refine T.g rfl trivial rfl rfl fun Y Z => ?_; simp only [zz, reduceIte, Nat.reduceEqDiff, Nat.reduceAdd, Nat.reduceBEq, Bool.or_self, kill, e2, l2, e3, l3, e5, l5, hwu, hww]; refine Z _ _ ?_; clear Z Y)
   all_goals iterate 4 (first | (refine T.y rfl (by first | rfl | (simp only [stC, ze, reduceIte, Nat.reduceEqDiff, Nat.reduceBEq, Bool.or_self, kill, e2, l2, e3, l3, e5, l5, hwu, hww]; first | done | rfl)) rfl rfl rfl rfl fun Y Z => ?_; simp only [zz, reduceIte, Nat.reduceEqDiff, Nat.reduceLT, Nat.reduceLeDiff, Nat.reduceAdd, reduceCtorEq, Nat.reduceMul, tt, Nat.reduceBEq, Bool.or_self, kill, e2, l2, e3, l3, e5, l5, hwu, hww]; refine Z _ _ ?_; clear Z Y) | refine T.one trivial ?_)
   all_goals (first | (refine T.y rfl trivial rfl rfl rfl rfl fun Y Z => ?_; simp only [zz, reduceIte, Nat.reduceEqDiff, Nat.reduceLT, Nat.reduceLeDiff, Nat.reduceAdd, reduceCtorEq, Nat.reduceMul, Nat.reduceBEq, Bool.or_self, kill, e2, l2, e3, l3, e5, l5, hwu, hww]; refine PCalls.eqto hab ?_ <;> (refine Z _ _ ?_; clear Z Y)) | refine T.one trivial ?_)
   all_goals (first | (refine T.y rfl trivial rfl rfl rfl rfl fun Y Z => ?_; simp only [zz, reduceIte, Nat.reduceEqDiff, Nat.reduceLT, Nat.reduceLeDiff, Nat.reduceAdd, reduceCtorEq, Nat.reduceMul, Nat.reduceBEq, Bool.or_self, kill, e2, l2, e3, l3, e5, l5, hwu, hww]; refine PCalls.eqto hrab ?_ <;> (refine Z _ _ ?_; clear Z Y)) | refine T.one trivial ?_)
   all_goals (first | (refine T.sp (J11 @Bool.or_self @kill.eq_1 @kill.eq_2 e2 l2 e3 l3 e5 l5 hwu hww) fun b a22 => ?_; cases b <;> (try exact nope a22)) | refine T.one trivial ?_)
   all_goals iterate 2 (refine T.g rfl trivial rfl rfl fun Y Z => ?_; simp only [zz, reduceIte, Nat.reduceEqDiff, Nat.reduceAdd, Nat.reduceBEq, Bool.or_self, kill, e2, l2, e3, l3, e5, l5, hwu, hww]; refine Z _ _ ?_; clear Z Y)
   all_goals iterate 2 (first | (refine T.y rfl (by first | rfl | (simp only [stC, ze, reduceIte, Nat.reduceEqDiff, Nat.reduceBEq, Bool.or_self, kill, e2, l2, e3, l3, e5, l5, hwu, hww]; first | done | rfl)) rfl rfl rfl rfl fun Y Z => ?_; simp only [zz, reduceIte, Nat.reduceEqDiff, Nat.reduceLT, Nat.reduceLeDiff, Nat.reduceAdd, reduceCtorEq, Nat.reduceMul, tt, Nat.reduceBEq, Bool.or_self, kill, e2, l2, e3, l3, e5, l5, hwu, hww]; refine Z _ _ ?_; clear Z Y) | refine T.one trivial ?_)
   all_goals (first | (refine T.y rfl trivial rfl rfl rfl rfl fun Y Z => ?_; simp only [zz, reduceIte, Nat.reduceEqDiff, Nat.reduceLT, Nat.reduceLeDiff, Nat.reduceAdd, reduceCtorEq, Nat.reduceMul, Nat.reduceBEq, Bool.or_self, kill, e2, l2, e3, l3, e5, l5, hwu, hww]; (refine ACalls.to hac ?_; rintro v1 σ2 ⟨hs2, rfl⟩; have hs2 := hs2.symm; subst hs2); refine S.bool fun b a27 => ?_; cases b <;> (try exact nope a27) <;> (refine Z _ _ ?_; clear Z Y)) | refine T.one trivial ?_)
   all_goals (first | (refine T.y rfl trivial rfl rfl rfl rfl fun Y Z => ?_; simp only [zz, reduceIte, Nat.reduceEqDiff, Nat.reduceAdd, Nat.reduceBEq, Bool.or_self, kill, e2, l2, e3, l3, e5, l5, hwu, hww]; refine Z _ _ ?_; clear Z Y) | refine T.one trivial ?_)
   all_goals iterate 2 (refine T.g rfl trivial rfl rfl fun Y Z => ?_; simp only [zz, reduceIte, Nat.reduceEqDiff, Nat.reduceAdd, Nat.reduceBEq, Bool.or_self, kill, e2, l2, e3, l3, e5, l5, hwu, hww]; refine Z _ _ ?_; clear Z Y)
   all_goals iterate 2 (first | (refine T.y rfl (by first | rfl | (simp only [stC, ze, reduceIte, Nat.reduceEqDiff, Nat.reduceBEq, Bool.or_self, kill, e2, l2, e3, l3, e5, l5, hwu, hww]; first | done | rfl)) rfl rfl rfl rfl fun Y Z => ?_; simp only [zz, reduceIte, Nat.reduceEqDiff, Nat.reduceLT, Nat.reduceLeDiff, Nat.reduceAdd, reduceCtorEq, Nat.reduceMul, tt, Nat.reduceBEq, Bool.or_self, kill, e2, l2, e3, l3, e5, l5, hwu, hww]; refine Z _ _ ?_; clear Z Y) | refine T.one trivial ?_)
   all_goals (first | (refine T.y rfl trivial rfl rfl rfl rfl fun Y Z => ?_; simp only [zz, reduceIte, Nat.reduceEqDiff, Nat.reduceLT, Nat.reduceLeDiff, Nat.reduceAdd, reduceCtorEq, Nat.reduceMul, Nat.reduceBEq, Bool.or_self, kill, e2, l2, e3, l3, e5, l5, hwu, hww]; (refine ACalls.to hrac ?_; rintro v1 σ2 ⟨hs2, rfl⟩; have hs2 := hs2.symm; subst hs2) <;> (refine Z _ _ ?_; clear Z Y)) | refine T.one trivial ?_)
   all_goals (first | (refine T.y rfl trivial rfl rfl rfl rfl fun Y Z => ?_; simp only [zz, reduceIte, Nat.reduceEqDiff, Nat.reduceAdd, Nat.reduceBEq, Bool.or_self, kill, e2, l2, e3, l3, e5, l5, hwu, hww]; refine Z _ _ ?_; clear Z Y) | refine T.one trivial ?_)
   all_goals (refine T.g rfl trivial rfl rfl fun Y Z => ?_; simp only [zz, reduceIte, Nat.reduceEqDiff, Nat.reduceAdd, Nat.reduceBEq, Bool.or_self, kill, e2, l2, e3, l3, e5, l5, hwu, hww]; refine Z _ _ ?_; clear Z Y)
   all_goals refine T.nil ?_
   all_goals simp only [ze, reduceIte, Nat.reduceEqDiff, Nat.reduceLT, Nat.reduceLeDiff, Nat.reduceAdd, reduceCtorEq, Nat.reduceMul, Nat.reduceBEq, Bool.or_self, kill, e2, l2, e3, l3, e5, l5, hwu, hww]
   all_goals ((try and_intros) <;> first | rfl | assumption | (rfl))
  rintro s2 σ2 ⟨rfl, e2, l2, e5, l5, e35⟩
  refine AW.cond (b := false) e35 (fun h => by cases h) (fun _ => AW.skip ?_)
  exact ⟨rfl, e2, l2, e5, l5⟩
 clear e2 l2 e3 l3 e5 l5 s
 rintro s σ2 ⟨hs2, e2, l2, e5, l5⟩
 have hs2 := hs2.symm
 subst hs2
 have hoU := htw.2.1.wk
 have hoW := htw.2.2.wk
 rw [hU] at hoU
 rw [hW] at hoW
 refine AW.seq_j (fun s' σ' => ∃ u2 w2, TwinH a σ u2 w2 σ' ∧ s'.t 2 = .lp 2 0 ∧ s'.l 2 = some [.sl (a.ops.map encOp), .sl (a.from_.map encF)] ∧ s'.t 5 = .lp 5 0 ∧ s'.l 5 = some [U, Wc] ∧ s'.t 6 = .lp 6 0 ∧ s'.l 6 = some [wk1 u2, wk1 w2]) ?_ ?_
 ·skip
  refine AW.reg0 ?_
  (refine S.g rfl rfl fun Y Z => ?_; simp only [zz, reduceIte, Nat.reduceEqDiff, Nat.reduceLT, Nat.reduceLeDiff, Nat.reduceAdd, reduceCtorEq, Nat.reduceMul, tt, e2, l2, e5, l5, encPl]; refine Z _ _ ?_; clear Z Y)
  all_goals (refine S.g rfl rfl fun Y Z => ?_; simp only [zz, reduceIte, Nat.reduceEqDiff, Nat.reduceLT, Nat.reduceLeDiff, Nat.reduceAdd, reduceCtorEq, Nat.reduceMul, e2, l2, e5, l5, encPl]; (refine ACalls.to (clonePl_spec a ha σ) ?_; rintro v1 σ2 ⟨u2, w2, rfl, htw2⟩) <;> (refine Z _ _ ?_; clear Z Y))
  all_goals iterate 2 (refine S.g rfl rfl fun Y Z => ?_; simp only [zz, reduceIte, Nat.reduceEqDiff, Nat.reduceLT, Nat.reduceLeDiff, Nat.reduceAdd, reduceCtorEq, Nat.reduceMul, tt, e2, l2, e5, l5, encPl]; refine Z _ _ ?_; clear Z Y)
  all_goals refine S.nil ?_
  all_goals simp only [ze, reduceIte, Nat.reduceEqDiff, Nat.reduceLT, Nat.reduceLeDiff, Nat.reduceAdd, reduceCtorEq, Nat.reduceMul, e2, l2, e5, l5, encPl]
  refine ⟨u2, w2, htw2, ?_⟩
  all_goals ((try and_intros) <;> first | rfl | assumption | (rfl))
 clear e2 l2 e5 l5 s
 rintro s σ2 ⟨u2, w2, htw2, e2, l2, e5, l5, e6, l6⟩
 have hπ : ∀ k y, σ.gr k = none → σ2.gr k = some y → (rest σ σ2).gr k = some y := fun k y h1 h2 => by simp [rest, h1, h2]
 obtain ⟨ht3, ht4⟩ := twin_thaw htw2 hπ
 have hn : ∀ k y, σ.gr k = some y → (rest σ σ2).gr k = none := fun k y h => by simp [rest, h]
 refine AW.lend (π := rest σ σ2) (ρ := σ) (rest_le σ σ2) ⟨fun g c h => (htw2.1.obj g).trans h, htw2.1.gr⟩ (rest_apart σ σ2) 2 ?_
 refine AW.st (fun s' => s'.t 2 = .lp 2 0 ∧ s'.l 2 = some [.sl (a.ops.map encOp), .sl (a.from_.map encF)] ∧ s'.t 5 = .lp 5 0 ∧ s'.l 5 = some [U, Wc] ∧ s'.t 6 = .lp 6 0 ∧ s'.l 6 = some [.sl (a.ops.map encOp), .sl (a.from_.map encF)]) ?_ ?_
 ·have hU2 : thaw (rest σ σ2) 2 U = U := by
   rcases hoU with ⟨h, _⟩ | ⟨k, rows, h, _, _, h1, _⟩
   ·rw [h]; rfl
   ·rw [h]; simp [thaw, hn k _ h1]
  have hW2 : thaw (rest σ σ2) 2 Wc = Wc := by
   rcases hoW with ⟨h, _⟩ | ⟨k, rows, h, _, _, h1, _⟩
   ·rw [h]; rfl
   ·rw [h]; simp [thaw, hn k _ h1]
  simp only [St.mapV_t, St.mapV_l, e2, l2, e5, l5, e6, l6, Option.map_some, List.map_cons, List.map_nil, hU2, hW2, ht3, ht4]
  and_intros <;> first | rfl | trivial
 clear e2 l2 e5 l5 e6 l6 htw2 hπ ht3 ht4 hn s σ2
 rintro s ⟨e2, l2, e5, l5, e6, l6⟩
 have hOp : OpI a U σ := by
  rcases hoU with h | ⟨k, rows, h, _, _, h1, h2⟩
  ·exact .inl h
  ·obtain ⟨cs, hcs⟩ := wops_of h1 h2
   exact .inr ⟨k, rows, cs, h, hcs⟩
 have hFr : FrI a Wc σ := by
  rcases hoW with h | ⟨k, rows, h, _, _, h1, h2⟩
  ·exact .inl h
  ·obtain ⟨cs, hcs⟩ := wfrom_of h1 h2
   exact .inr ⟨k, rows, cs, h, hcs⟩
 have htab : σ.obj 0 = some (tabV tq) := (htw.1.obj 0).trans (by simp [tabH])
 clear hoU hoW htw hle ht1 ht2 hwu hww hpa hpr hac hrac hU hW u w hab hrab haa
 refine AW.seq_j (fun s' σ' => σ'.obj 0 = some (tabV tq) ∧ FrI a Wc σ' ∧ s'.t 2 = .lp 2 0 ∧ s'.l 2 = some [.sl (a.ops.map encOp), .sl (a.from_.map encF)] ∧ s'.t 5 = .lp 5 0 ∧ s'.l 5 = some [U, Wc] ∧ s'.t 6 = .lp 6 0 ∧ s'.l 6 = some [.sl (a.ops.map encOp), .sl (a.from_.map encF)]) ?_ ?_
 ·refine AW.seq_j (fun s' σ' => σ' = σ ∧ s'.t 2 = .lp 2 0 ∧ s'.l 2 = some [.sl (a.ops.map encOp), .sl (a.from_.map encF)] ∧ s'.t 5 = .lp 5 0 ∧ s'.l 5 = some [U, Wc] ∧ s'.t 6 = .lp 6 0 ∧ s'.l 6 = some [.sl (a.ops.map encOp), .sl (a.from_.map encF)] ∧ s'.t 40 = .c (.int .i64 (a.ops.length : Nat)) ∧ s'.t 41 = .c (.int .i64 (0 : Nat))) ?_ ?_
  ·rcases hOp with ⟨rfl, h0⟩ | ⟨ko, rows, cs, rfl, hwo⟩
   ·skip
    refine AW.reg0 ?_
    iterate 4 (refine S.g rfl rfl fun Y Z => ?_; simp only [zz, reduceIte, Nat.reduceEqDiff, Nat.reduceLT, Nat.reduceLeDiff, Nat.reduceAdd, reduceCtorEq, Nat.reduceMul, tt, e2, l2, e5, l5, e6, l6]; refine Z _ _ ?_; clear Z Y)
    all_goals refine S.nil ?_
    all_goals simp only [ze, reduceIte, Nat.reduceEqDiff, Nat.reduceLT, Nat.reduceLeDiff, Nat.reduceAdd, reduceCtorEq, Nat.reduceMul, e2, l2, e5, l5, e6, l6]
    all_goals ((try and_intros) <;> first | rfl | assumption | ((rw [h0]; rfl)))
   ·have hgo := hwo.at_
    have hgl := hwo.len
    refine AW.reg0 ?_
    iterate 4 (refine S.g rfl rfl fun Y Z => ?_; simp only [zz, reduceIte, Nat.reduceEqDiff, Nat.reduceLT, Nat.reduceLeDiff, Nat.reduceAdd, reduceCtorEq, Nat.reduceMul, tt, e2, l2, e5, l5, e6, l6, hgo, hgl]; refine Z _ _ ?_; clear Z Y)
    all_goals refine S.nil ?_
    all_goals simp only [ze, reduceIte, Nat.reduceEqDiff, Nat.reduceLT, Nat.reduceLeDiff, Nat.reduceAdd, reduceCtorEq, Nat.reduceMul, e2, l2, e5, l5, e6, l6, hgo, hgl]
    all_goals ((try and_intros) <;> first | rfl | assumption | (rfl))
  clear e2 l2 e5 l5 e6 l6 s
  rintro s σ1 ⟨hs1, e2, l2, e5, l5, e6, l6, e40, e41⟩
  have hs1 := hs1.symm
  subst hs1
  refine AW.block ?_   -- 0
  refine AW.loop (fun m s' σ' => ∃ i : Nat, m + i = a.ops.length ∧ INV a U Wc tq σ' ∧ s'.t 2 = .lp 2 0 ∧ s'.l 2 = some [.sl (a.ops.map encOp), .sl (a.from_.map encF)] ∧ s'.t 5 = .lp 5 0 ∧ s'.l 5 = some [U, Wc] ∧ s'.t 6 = .lp 6 0 ∧ s'.l 6 = some [.sl (a.ops.map encOp), .sl (a.from_.map encF)] ∧ s'.t 40 = .c (.int .i64 (a.ops.length : Nat)) ∧ s'.t 41 = .c (.int .i64 (i : Nat))) a.ops.length ?_ ?_
  ·exact ⟨0, by simp, ⟨htab, hOp, hFr⟩, e2, l2, e5, l5, e6, l6, e40, e41⟩
  clear e2 l2 e5 l5 e6 l6 e40 e41 hOp hFr htab s
  rintro m s σ ⟨i, hm, ⟨htab, hOp, hFr⟩, e2, l2, e5, l5, e6, l6, e40, e41⟩
  refine AW.seq_k fun K2 h2 => ?_
  all_goals refine AW.reg0 ?_
  all_goals (refine S.g rfl rfl fun Y Z => ?_; simp only [zz, reduceIte, Nat.reduceEqDiff, Nat.reduceAdd, e40, e41]; refine Z _ _ ?_; clear Z Y)
  all_goals (refine S.nil ?_; simp only [ze, reduceIte, Nat.reduceEqDiff, Nat.reduceLT, Nat.reduceLeDiff, Nat.reduceAdd, reduceCtorEq, Nat.reduceMul, e40, e41]; apply_assumption)
  refine AW.seq_k fun K3 h3 => ?_
  refine AW.cond (b := decide (i < a.ops.length)) (by simp [ev]) (fun hi => ?_) (fun hi => ?_)
  ·have hi := of_decide_eq_true hi
   obtain ⟨o, ho, hom, _, _⟩ := op_get hi
   have hw := wadd1 (a := i) (by omega)
   have hcl := ha.conds o hom
   unfold reach at hcl
   refine AW.skip ?_
   simp only [zs, reduceIte, Nat.reduceEqDiff, Nat.reduceLT, Nat.reduceLeDiff, Nat.reduceAdd, reduceCtorEq, Nat.reduceMul]
   all_goals apply_assumption
   refine AW.seq_j (fun s' σ' => INV a U Wc tq σ' ∧ s'.t 2 = .lp 2 0 ∧ s'.l 2 = some [.sl (a.ops.map encOp), .sl (a.from_.map encF)] ∧ s'.t 5 = .lp 5 0 ∧ s'.l 5 = some [U, Wc] ∧ s'.t 6 = .lp 6 0 ∧ s'.l 6 = some [.sl (a.ops.map encOp), .sl (a.from_.map encF)] ∧ s'.t 40 = .c (.int .i64 (a.ops.length : Nat)) ∧ s'.t 41 = .c (.int .i64 (i : Nat))) ?_ ?_
   ·rcases hOp with ⟨_, h0⟩ | ⟨ko, rows, cs, rfl, hwo⟩
    ·rw [h0] at hi; cases hi
    refine AW.block ?_   -- 1
    refine AW.seq_k fun K4 h4 => ?_
    all_goals refine AW.reg0 ?_
    all_goals iterate 2 (refine S.g rfl rfl fun Y Z => ?_; simp only [zz, reduceIte, Nat.reduceEqDiff, Nat.reduceAdd, e2, l2, e5, l5, e6, l6, e40, e41]; refine Z _ _ ?_; clear Z Y)
    all_goals (refine S.nil ?_; simp only [ze, reduceIte, Nat.reduceEqDiff, Nat.reduceLT, Nat.reduceLeDiff, Nat.reduceAdd, reduceCtorEq, Nat.reduceMul, e2, l2, e5, l5, e6, l6, e40, e41]; apply_assumption)
    have hgo := hwo.at_
    have hri : i < rows.length := by rw [hwo.len]; exact hi
    obtain ⟨hr7, hr4, hcv⟩ := hwo.row i o ho
    refine AW.seq_j (fun s' σ' => σ'.obj 0 = some (tabV tq) ∧ FrI a Wc σ' ∧ (∃ rows, WOps σ' a ko rows cs) ∧ s'.t 2 = .lp 2 0 ∧ s'.l 2 = some [.sl (a.ops.map encOp), .sl (a.from_.map encF)] ∧ s'.t 5 = .lp 5 0 ∧ s'.l 5 = some [.gl ko, Wc] ∧ s'.t 6 = .lp 6 0 ∧ s'.l 6 = some [.sl (a.ops.map encOp), .sl (a.from_.map encF)] ∧ s'.t 40 = .c (.int .i64 (a.ops.length : Nat)) ∧ s'.t 41 = .c (.int .i64 (i : Nat)) ∧ s'.t 7 = .c (.int .i64 (i : Nat))) ?_ ?_
    ·skip
     refine AW.reg0 ?_
     iterate 6 (refine S.g rfl rfl fun Y Z => ?_; simp only [zz, reduceIte, Nat.reduceEqDiff, Nat.reduceLT, Nat.reduceLeDiff, Nat.reduceAdd, reduceCtorEq, Nat.reduceMul, tt, e2, l2, e5, l5, e6, l6, e40, e41, hgo, hri, hr7]; refine Z _ _ ?_; clear Z Y)
     all_goals refine S.nil ?_
     all_goals simp only [ze, reduceIte, Nat.reduceEqDiff, Nat.reduceLT, Nat.reduceLeDiff, Nat.reduceAdd, reduceCtorEq, Nat.reduceMul, e2, l2, e5, l5, e6, l6, e40, e41, hgo, hri, hr7]
     have hsl : (splice (rows.getD i []) 0 [.c (.int .i64 99)]).length = 7 := by rw [splice_len (by rw [hr7]; decide), hr7]
     have hs4 : (splice (rows.getD i []) 0 [.c (.int .i64 99)]).getD 4 .junk = (rows.getD i []).getD 4 .junk := splice_0 hr7
     have hsh := shaped_set (i := i) hgo hsl
     exact ⟨htab, hFr.shaped hsh (by decide), _, hwo.set hsl hs4⟩
    clear e2 l2 e5 l5 e6 l6 e40 e41 hFr hwo htab hgo hri hr7 hr4 hcv s
    rintro s σ ⟨htab, hFr, ⟨rows, hwo⟩, e2, l2, e5, l5, e6, l6, e40, e41, e7⟩
    have hgo := hwo.at_
    have hri : i < rows.length := by rw [hwo.len]; exact hi
    obtain ⟨hr7, hr4, hcv⟩ := hwo.row i o ho
    refine AW.seq_j (fun s' σ' => σ' = σ ∧ s'.t 2 = .lp 2 0 ∧ s'.l 2 = some [.sl (a.ops.map encOp), .sl (a.from_.map encF)] ∧ s'.t 5 = .lp 5 0 ∧ s'.l 5 = some [.gl ko, Wc] ∧ s'.t 6 = .lp 6 0 ∧ s'.l 6 = some [.sl (a.ops.map encOp), .sl (a.from_.map encF)] ∧ s'.t 40 = .c (.int .i64 (a.ops.length : Nat)) ∧ s'.t 41 = .c (.int .i64 (i : Nat)) ∧ s'.t 7 = .c (.int .i64 (i : Nat)) ∧ s'.t 55 = .c (.int .i64 (o.conds.length : Nat)) ∧ s'.t 56 = .c (.int .i64 (0 : Nat))) ?_ ?_
    ·rcases hcv with ⟨h1, h2⟩ | ⟨k, es, h1, h2, h3, h4⟩
     ·rw [h1] at hr4
      refine AW.reg0 ?_
      iterate 8 (refine S.g rfl rfl fun Y Z => ?_; simp only [zz, reduceIte, Nat.reduceEqDiff, Nat.reduceLT, Nat.reduceLeDiff, Nat.reduceAdd, reduceCtorEq, Nat.reduceMul, tt, e2, l2, e5, l5, e6, l6, e40, e41, e7, hgo, hri, hr7, hr4]; refine Z _ _ ?_; clear Z Y)
      all_goals refine S.nil ?_
      all_goals simp only [ze, reduceIte, Nat.reduceEqDiff, Nat.reduceLT, Nat.reduceLeDiff, Nat.reduceAdd, reduceCtorEq, Nat.reduceMul, e2, l2, e5, l5, e6, l6, e40, e41, e7, hgo, hri, hr7, hr4]
      all_goals ((try and_intros) <;> first | rfl | assumption | ((rw [h2])))
     ·rw [h1] at hr4
      refine AW.reg0 ?_
      iterate 8 (refine S.g rfl rfl fun Y Z => ?_; simp only [zz, reduceIte, Nat.reduceEqDiff, Nat.reduceLT, Nat.reduceLeDiff, Nat.reduceAdd, reduceCtorEq, Nat.reduceMul, tt, e2, l2, e5, l5, e6, l6, e40, e41, e7, hgo, hri, hr7, hr4, h2, h3]; refine Z _ _ ?_; clear Z Y)
      all_goals refine S.nil ?_
      all_goals simp only [ze, reduceIte, Nat.reduceEqDiff, Nat.reduceLT, Nat.reduceLeDiff, Nat.reduceAdd, reduceCtorEq, Nat.reduceMul, e2, l2, e5, l5, e6, l6, e40, e41, e7, hgo, hri, hr7, hr4, h2, h3]
      all_goals ((try and_intros) <;> first | rfl | assumption | (rfl))
    clear e2 l2 e5 l5 e6 l6 e40 e41 e7 s
    rintro s σ1 ⟨hs1, e2, l2, e5, l5, e6, l6, e40, e41, e7, e55, e56⟩
    have hs1 := hs1.symm
    subst hs1
    refine AW.block ?_   -- 2
    refine AW.loop (fun m s' σ' => ∃ j : Nat, m + j = o.conds.length ∧ σ'.obj 0 = some (tabV tq) ∧ FrI a Wc σ' ∧ WOps σ' a ko rows cs ∧ s'.t 2 = .lp 2 0 ∧ s'.l 2 = some [.sl (a.ops.map encOp), .sl (a.from_.map encF)] ∧ s'.t 5 = .lp 5 0 ∧ s'.l 5 = some [.gl ko, Wc] ∧ s'.t 6 = .lp 6 0 ∧ s'.l 6 = some [.sl (a.ops.map encOp), .sl (a.from_.map encF)] ∧ s'.t 40 = .c (.int .i64 (a.ops.length : Nat)) ∧ s'.t 41 = .c (.int .i64 (i : Nat)) ∧ s'.t 7 = .c (.int .i64 (i : Nat)) ∧ s'.t 55 = .c (.int .i64 (o.conds.length : Nat)) ∧ s'.t 56 = .c (.int .i64 (j : Nat))) o.conds.length ?_ ?_
    ·exact ⟨0, by simp, htab, hFr, hwo, e2, l2, e5, l5, e6, l6, e40, e41, e7, e55, e56⟩
    clear e2 l2 e5 l5 e6 l6 e40 e41 e7 e55 e56 hFr hwo htab hgo hri hr7 hr4 hcv s
    rintro m2 s σ ⟨j, hm2, htab, hFr, hwo, e2, l2, e5, l5, e6, l6, e40, e41, e7, e55, e56⟩
    refine AW.seq_k fun K5 h5 => ?_
    all_goals refine AW.reg0 ?_
    all_goals (refine S.g rfl rfl fun Y Z => ?_; simp only [zz, reduceIte, Nat.reduceEqDiff, Nat.reduceAdd, e55, e56]; refine Z _ _ ?_; clear Z Y)
    all_goals (refine S.nil ?_; simp only [ze, reduceIte, Nat.reduceEqDiff, Nat.reduceLT, Nat.reduceLeDiff, Nat.reduceAdd, reduceCtorEq, Nat.reduceMul, e55, e56]; apply_assumption)
    refine AW.seq_k fun K6 h6 => ?_
    refine AW.cond (b := decide (j < o.conds.length)) (by simp [ev]) (fun hj => ?_) (fun hj => ?_)
    ·have hj := of_decide_eq_true hj
     have hw2 := wadd1 (a := j) (by omega)
     have hgo := hwo.at_
     have hri : i < rows.length := by rw [hwo.len]; exact hi
     obtain ⟨hr7, hr4, hcv⟩ := hwo.row i o ho
     rcases hcv with ⟨h1, h2⟩ | ⟨k, es, h1, h2, h3, h4⟩
     ·omega
     rw [h1] at hr4
     have hje : j < es.length := by omega
     have he11 : (es.getD j []).length = 11 := by
      have : es.getD j [] = es[j] := by simp [List.getD, hje]
      rw [this]; exact h4 _ (List.getElem_mem hje)
     refine AW.skip ?_
     all_goals simp only [zs, reduceIte, Nat.reduceEqDiff, Nat.reduceLT, Nat.reduceLeDiff, Nat.reduceAdd, reduceCtorEq, Nat.reduceMul]
     all_goals apply_assumption
     refine AW.seq_j (fun s' σ' => σ'.obj 0 = some (tabV tq) ∧ FrI a Wc σ' ∧ WOps σ' a ko rows cs ∧ s'.t 2 = .lp 2 0 ∧ s'.l 2 = some [.sl (a.ops.map encOp), .sl (a.from_.map encF)] ∧ s'.t 5 = .lp 5 0 ∧ s'.l 5 = some [.gl ko, Wc] ∧ s'.t 6 = .lp 6 0 ∧ s'.l 6 = some [.sl (a.ops.map encOp), .sl (a.from_.map encF)] ∧ s'.t 40 = .c (.int .i64 (a.ops.length : Nat)) ∧ s'.t 41 = .c (.int .i64 (i : Nat)) ∧ s'.t 7 = .c (.int .i64 (i : Nat)) ∧ s'.t 55 = .c (.int .i64 (o.conds.length : Nat)) ∧ s'.t 56 = .c (.int .i64 (j : Nat))) ?_ ?_
     ·refine AW.block ?_   -- 3
      refine AW.seq_k fun K7 h7 => ?_
      refine AW.reg0 ?_
      iterate 2 (refine S.g rfl rfl fun Y Z => ?_; simp only [zz, reduceIte, Nat.reduceEqDiff, Nat.reduceAdd, e2, l2, e5, l5, e6, l6, e40, e41, e7, e55, e56]; refine Z _ _ ?_; clear Z Y)
      all_goals (refine S.nil ?_; simp only [ze, reduceIte, Nat.reduceEqDiff, Nat.reduceLT, Nat.reduceLeDiff, Nat.reduceAdd, reduceCtorEq, Nat.reduceMul, e2, l2, e5, l5, e6, l6, e40, e41, e7, e55, e56]; apply_assumption)
      all_goals refine AW.reg0 ?_
      all_goals iterate 10 (refine S.g rfl rfl fun Y Z => ?_; simp only [zz, reduceIte, Nat.reduceEqDiff, Nat.reduceLT, Nat.reduceLeDiff, Nat.reduceAdd, reduceCtorEq, Nat.reduceMul, tt, e2, l2, e5, l5, e6, l6, e40, e41, e7, e55, e56, hgo, hri, hr7, hr4, h2, hje, he11]; refine Z _ _ ?_; clear Z Y)
      all_goals refine S.nil ?_
      all_goals simp only [ze, reduceIte, Nat.reduceEqDiff, Nat.reduceLT, Nat.reduceLeDiff, Nat.reduceAdd, reduceCtorEq, Nat.reduceMul, e2, l2, e5, l5, e6, l6, e40, e41, e7, e55, e56, hgo, hri, hr7, hr4, h2, hje, he11]
      have hsl : (splice (es.getD j []) 5 [.c (.int .i64 99)]).length = 11 := by rw [splice_len (by rw [he11]; decide), he11]
      have hsh := shaped_set (i := j) h2 hsl
      exact ⟨htab, hFr.shaped hsh (by decide), hwo.shaped hsh (ne_type hgo h2 (by decide))⟩
     ·clear e2 l2 e5 l5 e6 l6 e40 e41 e7 e55 e56 hFr hwo htab hgo hri hr7 hr4 s
      rintro s σ ⟨htab, hFr, hwo, e2, l2, e5, l5, e6, l6, e40, e41, e7, e55, e56⟩
      refine AW.reg0 ?_
      iterate 2 (refine S.g rfl rfl fun Y Z => ?_; simp only [zz, reduceIte, Nat.reduceEqDiff, Nat.reduceAdd, e2, l2, e5, l5, e6, l6, e40, e41, e7, e55, e56, hw2]; refine Z _ _ ?_; clear Z Y)
      all_goals refine S.nil ?_
      all_goals simp only [ze, reduceIte, Nat.reduceEqDiff, Nat.reduceLT, Nat.reduceLeDiff, Nat.reduceAdd, reduceCtorEq, Nat.reduceMul, e2, l2, e5, l5, e6, l6, e40, e41, e7, e55, e56, hw2]
      refine ⟨m2 - 1, by omega, j + 1, by omega, htab, hFr, hwo, ?_⟩
      all_goals ((try and_intros) <;> first | rfl | assumption | (rfl))
    ·have hj := of_decide_eq_false hj
     refine AW.exit ?_
     refine ⟨⟨htab, .inr ⟨ko, rows, cs, rfl, hwo⟩, hFr⟩, ?_⟩
     simp only [zs, reduceIte, Nat.reduceEqDiff, Nat.reduceLT, Nat.reduceLeDiff, Nat.reduceAdd, reduceCtorEq, Nat.reduceMul, e2, l2, e5, l5, e6, l6, e40, e41]
     all_goals ((try and_intros) <;> first | rfl | assumption | (rfl))
   ·clear e2 l2 e5 l5 e6 l6 e40 e41 hOp hFr htab s
    rintro s σ ⟨hinv, e2, l2, e5, l5, e6, l6, e40, e41⟩
    refine AW.reg0 ?_
    iterate 2 (refine S.g rfl rfl fun Y Z => ?_; simp only [zz, reduceIte, Nat.reduceEqDiff, Nat.reduceAdd, e2, l2, e5, l5, e6, l6, e40, e41, hw]; refine Z _ _ ?_; clear Z Y)
    all_goals refine S.nil ?_
    all_goals simp only [ze, reduceIte, Nat.reduceEqDiff, Nat.reduceLT, Nat.reduceLeDiff, Nat.reduceAdd, reduceCtorEq, Nat.reduceMul, e2, l2, e5, l5, e6, l6, e40, e41, hw]
    refine ⟨m - 1, by omega, i + 1, by omega, hinv, ?_⟩
    all_goals ((try and_intros) <;> first | rfl | assumption | (rfl))
  ·have hi := of_decide_eq_false hi
   refine AW.exit ?_
   refine ⟨htab, hFr, ?_⟩
   simp only [zs, reduceIte, Nat.reduceEqDiff, Nat.reduceLT, Nat.reduceLeDiff, Nat.reduceAdd, reduceCtorEq, Nat.reduceMul, e2, l2, e5, l5, e6, l6]
   all_goals ((try and_intros) <;> first | rfl | assumption | (rfl))
 clear e2 l2 e5 l5 e6 l6 hOp hFr htab s
 rintro s σ ⟨htab, hFr, e2, l2, e5, l5, e6, l6⟩
 refine AW.seq_j (fun s' σ' => σ'.obj 0 = some (tabV tq) ∧ s'.t 2 = .lp 2 0 ∧ s'.l 2 = some [.sl (a.ops.map encOp), .sl (a.from_.map encF)] ∧ s'.t 5 = .lp 5 0 ∧ s'.l 5 = some [U, Wc] ∧ s'.t 6 = .lp 6 0 ∧ s'.l 6 = some [.sl (a.ops.map encOp), .sl (a.from_.map encF)]) ?_ ?_
 ·refine AW.seq_j (fun s' σ' => σ' = σ ∧ s'.t 2 = .lp 2 0 ∧ s'.l 2 = some [.sl (a.ops.map encOp), .sl (a.from_.map encF)] ∧ s'.t 5 = .lp 5 0 ∧ s'.l 5 = some [U, Wc] ∧ s'.t 6 = .lp 6 0 ∧ s'.l 6 = some [.sl (a.ops.map encOp), .sl (a.from_.map encF)] ∧ s'.t 72 = .c (.int .i64 (a.from_.length : Nat)) ∧ s'.t 73 = .c (.int .i64 (0 : Nat))) ?_ ?_
  ·rcases hFr with ⟨rfl, h0⟩ | ⟨kf, rows, cs, rfl, hwo⟩
   ·skip
    refine AW.reg0 ?_
    iterate 4 (refine S.g rfl rfl fun Y Z => ?_; simp only [zz, reduceIte, Nat.reduceEqDiff, Nat.reduceLT, Nat.reduceLeDiff, Nat.reduceAdd, reduceCtorEq, Nat.reduceMul, tt, e2, l2, e5, l5, e6, l6]; refine Z _ _ ?_; clear Z Y)
    all_goals refine S.nil ?_
    all_goals simp only [ze, reduceIte, Nat.reduceEqDiff, Nat.reduceLT, Nat.reduceLeDiff, Nat.reduceAdd, reduceCtorEq, Nat.reduceMul, e2, l2, e5, l5, e6, l6]
    all_goals ((try and_intros) <;> first | rfl | assumption | ((rw [h0]; rfl)))
   ·have hgo := hwo.at_
    have hgl := hwo.len
    refine AW.reg0 ?_
    iterate 4 (refine S.g rfl rfl fun Y Z => ?_; simp only [zz, reduceIte, Nat.reduceEqDiff, Nat.reduceLT, Nat.reduceLeDiff, Nat.reduceAdd, reduceCtorEq, Nat.reduceMul, tt, e2, l2, e5, l5, e6, l6, hgo, hgl]; refine Z _ _ ?_; clear Z Y)
    all_goals refine S.nil ?_
    all_goals simp only [ze, reduceIte, Nat.reduceEqDiff, Nat.reduceLT, Nat.reduceLeDiff, Nat.reduceAdd, reduceCtorEq, Nat.reduceMul, e2, l2, e5, l5, e6, l6, hgo, hgl]
    all_goals ((try and_intros) <;> first | rfl | assumption | (rfl))
  clear e2 l2 e5 l5 e6 l6 s
  rintro s σ1 ⟨hs1, e2, l2, e5, l5, e6, l6, e72, e73⟩
  have hs1 := hs1.symm
  subst hs1
  refine AW.block ?_   -- 4
  refine AW.loop (fun m s' σ' => ∃ i : Nat, m + i = a.from_.length ∧ (σ'.obj 0 = some (tabV tq) ∧ FrI a Wc σ') ∧ s'.t 2 = .lp 2 0 ∧ s'.l 2 = some [.sl (a.ops.map encOp), .sl (a.from_.map encF)] ∧ s'.t 5 = .lp 5 0 ∧ s'.l 5 = some [U, Wc] ∧ s'.t 6 = .lp 6 0 ∧ s'.l 6 = some [.sl (a.ops.map encOp), .sl (a.from_.map encF)] ∧ s'.t 72 = .c (.int .i64 (a.from_.length : Nat)) ∧ s'.t 73 = .c (.int .i64 (i : Nat))) a.from_.length ?_ ?_
  ·exact ⟨0, by simp, ⟨htab, hFr⟩, e2, l2, e5, l5, e6, l6, e72, e73⟩
  clear e2 l2 e5 l5 e6 l6 e72 e73 hFr htab s
  rintro m s σ ⟨i, hm, ⟨htab, hFr⟩, e2, l2, e5, l5, e6, l6, e72, e73⟩
  refine AW.seq_k fun K8 h8 => ?_
  all_goals refine AW.reg0 ?_
  all_goals (refine S.g rfl rfl fun Y Z => ?_; simp only [zz, reduceIte, Nat.reduceEqDiff, Nat.reduceAdd, e72, e73]; refine Z _ _ ?_; clear Z Y)
  all_goals (refine S.nil ?_; simp only [ze, reduceIte, Nat.reduceEqDiff, Nat.reduceLT, Nat.reduceLeDiff, Nat.reduceAdd, reduceCtorEq, Nat.reduceMul, e72, e73]; apply_assumption)
  refine AW.seq_k fun K9 h9 => ?_
  refine AW.cond (b := decide (i < a.from_.length)) (by simp [ev]) (fun hi => ?_) (fun hi => ?_)
  ·have hi := of_decide_eq_true hi
   obtain ⟨f, hf, hfm, _, _⟩ := f_get hi
   have hw := wadd1 (a := i) (by omega)
   have hcl := ha.fr f hfm
   unfold reach at hcl
   refine AW.skip ?_
   simp only [zs, reduceIte, Nat.reduceEqDiff, Nat.reduceLT, Nat.reduceLeDiff, Nat.reduceAdd, reduceCtorEq, Nat.reduceMul]
   all_goals apply_assumption
   refine AW.seq_j (fun s' σ' => (σ'.obj 0 = some (tabV tq) ∧ FrI a Wc σ') ∧ s'.t 2 = .lp 2 0 ∧ s'.l 2 = some [.sl (a.ops.map encOp), .sl (a.from_.map encF)] ∧ s'.t 5 = .lp 5 0 ∧ s'.l 5 = some [U, Wc] ∧ s'.t 6 = .lp 6 0 ∧ s'.l 6 = some [.sl (a.ops.map encOp), .sl (a.from_.map encF)] ∧ s'.t 72 = .c (.int .i64 (a.from_.length : Nat)) ∧ s'.t 73 = .c (.int .i64 (i : Nat))) ?_ ?_
   ·rcases hFr with ⟨_, h0⟩ | ⟨kf, rows, cs, rfl, hwo⟩
    ·rw [h0] at hi; cases hi
    refine AW.block ?_   -- 5
    refine AW.seq_k fun K10 h10 => ?_
    all_goals refine AW.reg0 ?_
    all_goals iterate 2 (refine S.g rfl rfl fun Y Z => ?_; simp only [zz, reduceIte, Nat.reduceEqDiff, Nat.reduceAdd, e2, l2, e5, l5, e6, l6, e72, e73]; refine Z _ _ ?_; clear Z Y)
    all_goals (refine S.nil ?_; simp only [ze, reduceIte, Nat.reduceEqDiff, Nat.reduceLT, Nat.reduceLeDiff, Nat.reduceAdd, reduceCtorEq, Nat.reduceMul, e2, l2, e5, l5, e6, l6, e72, e73]; apply_assumption)
    have hgo := hwo.at_
    have hri : i < rows.length := by rw [hwo.len]; exact hi
    obtain ⟨hr1, hcv⟩ := hwo.row i f hf
    refine AW.seq_j (fun s' σ' => σ' = σ ∧ s'.t 2 = .lp 2 0 ∧ s'.l 2 = some [.sl (a.ops.map encOp), .sl (a.from_.map encF)] ∧ s'.t 5 = .lp 5 0 ∧ s'.l 5 = some [U, .gl kf] ∧ s'.t 6 = .lp 6 0 ∧ s'.l 6 = some [.sl (a.ops.map encOp), .sl (a.from_.map encF)] ∧ s'.t 72 = .c (.int .i64 (a.from_.length : Nat)) ∧ s'.t 73 = .c (.int .i64 (i : Nat)) ∧ s'.t 9 = .c (.int .i64 (i : Nat)) ∧ s'.t 81 = .c (.int .i64 (f.length : Nat)) ∧ s'.t 82 = .c (.int .i64 (0 : Nat))) ?_ ?_
    ·rcases hcv with ⟨h1, h2⟩ | ⟨k, es, h1, h2, h3, h4⟩
     ·rw [h1] at hr1
      refine AW.reg0 ?_
      iterate 7 (refine S.g rfl rfl fun Y Z => ?_; simp only [zz, reduceIte, Nat.reduceEqDiff, Nat.reduceLT, Nat.reduceLeDiff, Nat.reduceAdd, reduceCtorEq, Nat.reduceMul, tt, e2, l2, e5, l5, e6, l6, e72, e73, hgo, hri, hr1]; refine Z _ _ ?_; clear Z Y)
      all_goals refine S.nil ?_
      all_goals simp only [ze, reduceIte, Nat.reduceEqDiff, Nat.reduceLT, Nat.reduceLeDiff, Nat.reduceAdd, reduceCtorEq, Nat.reduceMul, e2, l2, e5, l5, e6, l6, e72, e73, hgo, hri, hr1]
      all_goals ((try and_intros) <;> first | rfl | assumption | ((rw [h2])))
     ·rw [h1] at hr1
      refine AW.reg0 ?_
      iterate 7 (refine S.g rfl rfl fun Y Z => ?_; simp only [zz, reduceIte, Nat.reduceEqDiff, Nat.reduceLT, Nat.reduceLeDiff, Nat.reduceAdd, reduceCtorEq, Nat.reduceMul, tt, e2, l2, e5, l5, e6, l6, e72, e73, hgo, hri, hr1, h2, h3]; refine Z _ _ ?_; clear Z Y)
      all_goals refine S.nil ?_
      all_goals simp only [ze, reduceIte, Nat.reduceEqDiff, Nat.reduceLT, Nat.reduceLeDiff, Nat.reduceAdd, reduceCtorEq, Nat.reduceMul, e2, l2, e5, l5, e6, l6, e72, e73, hgo, hri, hr1, h2, h3]
      all_goals ((try and_intros) <;> first | rfl | assumption | (rfl))
    clear e2 l2 e5 l5 e6 l6 e72 e73 s
    rintro s σ1 ⟨hs1, e2, l2, e5, l5, e6, l6, e72, e73, e9, e81, e82⟩
    have hs1 := hs1.symm
    subst hs1
    refine AW.block ?_   -- 6
    refine AW.loop (fun m s' σ' => ∃ j : Nat, m + j = f.length ∧ σ'.obj 0 = some (tabV tq) ∧ WFrom σ' a kf rows cs ∧ s'.t 2 = .lp 2 0 ∧ s'.l 2 = some [.sl (a.ops.map encOp), .sl (a.from_.map encF)] ∧ s'.t 5 = .lp 5 0 ∧ s'.l 5 = some [U, .gl kf] ∧ s'.t 6 = .lp 6 0 ∧ s'.l 6 = some [.sl (a.ops.map encOp), .sl (a.from_.map encF)] ∧ s'.t 72 = .c (.int .i64 (a.from_.length : Nat)) ∧ s'.t 73 = .c (.int .i64 (i : Nat)) ∧ s'.t 9 = .c (.int .i64 (i : Nat)) ∧ s'.t 81 = .c (.int .i64 (f.length : Nat)) ∧ s'.t 82 = .c (.int .i64 (j : Nat))) f.length ?_ ?_
    ·exact ⟨0, by simp, htab, hwo, e2, l2, e5, l5, e6, l6, e72, e73, e9, e81, e82⟩
    clear e2 l2 e5 l5 e6 l6 e72 e73 e9 e81 e82 hwo htab hgo hri hr1 hcv s
    rintro m2 s σ ⟨j, hm2, htab, hwo, e2, l2, e5, l5, e6, l6, e72, e73, e9, e81, e82⟩
    refine AW.seq_k fun K11 h11 => ?_
    all_goals refine AW.reg0 ?_
    all_goals (refine S.g rfl rfl fun Y Z => ?_; simp only [zz, reduceIte, Nat.reduceEqDiff, Nat.reduceAdd, e81, e82]; refine Z _ _ ?_; clear Z Y)
    all_goals (refine S.nil ?_; simp only [ze, reduceIte, Nat.reduceEqDiff, Nat.reduceLT, Nat.reduceLeDiff, Nat.reduceAdd, reduceCtorEq, Nat.reduceMul, e81, e82]; apply_assumption)
    refine AW.seq_k fun K12 h12 => ?_
    refine AW.cond (b := decide (j < f.length)) (by simp [ev]) (fun hj => ?_) (fun hj => ?_)
    ·have hj := of_decide_eq_true hj
     have hw2 := wadd1 (a := j) (by omega)
     have hgo := hwo.at_
     have hri : i < rows.length := by rw [hwo.len]; exact hi
     obtain ⟨hr1, hcv⟩ := hwo.row i f hf
     rcases hcv with ⟨h1, h2⟩ | ⟨k, es, h1, h2, h3, h4⟩
     ·omega
     rw [h1] at hr1
     have hje : j < es.length := by omega
     have he1 : (es.getD j []).length = 1 := by
      have : es.getD j [] = es[j] := by simp [List.getD, hje]
      rw [this]; exact h4 _ (List.getElem_mem hje)
     refine AW.skip ?_
     all_goals simp only [zs, reduceIte, Nat.reduceEqDiff, Nat.reduceLT, Nat.reduceLeDiff, Nat.reduceAdd, reduceCtorEq, Nat.reduceMul]
     all_goals apply_assumption
     refine AW.seq_j (fun s' σ' => σ'.obj 0 = some (tabV tq) ∧ WFrom σ' a kf rows cs ∧ s'.t 2 = .lp 2 0 ∧ s'.l 2 = some [.sl (a.ops.map encOp), .sl (a.from_.map encF)] ∧ s'.t 5 = .lp 5 0 ∧ s'.l 5 = some [U, .gl kf] ∧ s'.t 6 = .lp 6 0 ∧ s'.l 6 = some [.sl (a.ops.map encOp), .sl (a.from_.map encF)] ∧ s'.t 72 = .c (.int .i64 (a.from_.length : Nat)) ∧ s'.t 73 = .c (.int .i64 (i : Nat)) ∧ s'.t 9 = .c (.int .i64 (i : Nat)) ∧ s'.t 81 = .c (.int .i64 (f.length : Nat)) ∧ s'.t 82 = .c (.int .i64 (j : Nat))) ?_ ?_
     ·refine AW.block ?_   -- 7
      refine AW.seq_k fun K13 h13 => ?_
      refine AW.reg0 ?_
      iterate 2 (refine S.g rfl rfl fun Y Z => ?_; simp only [zz, reduceIte, Nat.reduceEqDiff, Nat.reduceAdd, e2, l2, e5, l5, e6, l6, e72, e73, e9, e81, e82]; refine Z _ _ ?_; clear Z Y)
      all_goals (refine S.nil ?_; simp only [ze, reduceIte, Nat.reduceEqDiff, Nat.reduceLT, Nat.reduceLeDiff, Nat.reduceAdd, reduceCtorEq, Nat.reduceMul, e2, l2, e5, l5, e6, l6, e72, e73, e9, e81, e82]; apply_assumption)
      all_goals refine AW.reg0 ?_
      all_goals iterate 8 (refine S.g rfl rfl fun Y Z => ?_; simp only [zz, reduceIte, Nat.reduceEqDiff, Nat.reduceLT, Nat.reduceLeDiff, Nat.reduceAdd, reduceCtorEq, Nat.reduceMul, tt, e2, l2, e5, l5, e6, l6, e72, e73, e9, e81, e82, hgo, hri, hr1, h2, hje, he1]; refine Z _ _ ?_; clear Z Y)
      all_goals refine S.nil ?_
      all_goals simp only [ze, reduceIte, Nat.reduceEqDiff, Nat.reduceLT, Nat.reduceLeDiff, Nat.reduceAdd, reduceCtorEq, Nat.reduceMul, e2, l2, e5, l5, e6, l6, e72, e73, e9, e81, e82, hgo, hri, hr1, h2, hje, he1]
      have hsl : (splice (es.getD j []) 0 [.c (.int .i64 99)]).length = 1 := by rw [splice_len (by rw [he1]; decide), he1]
      have hsh := shaped_set (i := j) h2 hsl
      exact ⟨htab, hwo.shaped hsh (ne_type hgo h2 (by decide))⟩
     ·clear e2 l2 e5 l5 e6 l6 e72 e73 e9 e81 e82 hwo htab hgo hri hr1 s
      rintro s σ ⟨htab, hwo, e2, l2, e5, l5, e6, l6, e72, e73, e9, e81, e82⟩
      refine AW.reg0 ?_
      iterate 2 (refine S.g rfl rfl fun Y Z => ?_; simp only [zz, reduceIte, Nat.reduceEqDiff, Nat.reduceAdd, e2, l2, e5, l5, e6, l6, e72, e73, e9, e81, e82, hw2]; refine Z _ _ ?_; clear Z Y)
      all_goals refine S.nil ?_
      all_goals simp only [ze, reduceIte, Nat.reduceEqDiff, Nat.reduceLT, Nat.reduceLeDiff, Nat.reduceAdd, reduceCtorEq, Nat.reduceMul, e2, l2, e5, l5, e6, l6, e72, e73, e9, e81, e82, hw2]
      refine ⟨m2 - 1, by omega, j + 1, by omega, htab, hwo, ?_⟩
      all_goals ((try and_intros) <;> first | rfl | assumption | (rfl))
    ·have hj := of_decide_eq_false hj
     refine AW.exit ?_
     refine ⟨⟨htab, .inr ⟨kf, rows, cs, rfl, hwo⟩⟩, ?_⟩
     simp only [zs, reduceIte, Nat.reduceEqDiff, Nat.reduceLT, Nat.reduceLeDiff, Nat.reduceAdd, reduceCtorEq, Nat.reduceMul, e2, l2, e5, l5, e6, l6, e72, e73]
     all_goals ((try and_intros) <;> first | rfl | assumption | (rfl))
   ·clear e2 l2 e5 l5 e6 l6 e72 e73 hFr htab s
    rintro s σ ⟨hinv, e2, l2, e5, l5, e6, l6, e72, e73⟩
    refine AW.reg0 ?_
    iterate 2 (refine S.g rfl rfl fun Y Z => ?_; simp only [zz, reduceIte, Nat.reduceEqDiff, Nat.reduceAdd, e2, l2, e5, l5, e6, l6, e72, e73, hw]; refine Z _ _ ?_; clear Z Y)
    all_goals refine S.nil ?_
    all_goals simp only [ze, reduceIte, Nat.reduceEqDiff, Nat.reduceLT, Nat.reduceLeDiff, Nat.reduceAdd, reduceCtorEq, Nat.reduceMul, e2, l2, e5, l5, e6, l6, e72, e73, hw]
    refine ⟨m - 1, by omega, i + 1, by omega, hinv, ?_⟩
    all_goals ((try and_intros) <;> first | rfl | assumption | (rfl))
  ·have hi := of_decide_eq_false hi
   refine AW.exit ?_
   refine ⟨htab, ?_⟩
   simp only [zs, reduceIte, Nat.reduceEqDiff, Nat.reduceLT, Nat.reduceLeDiff, Nat.reduceAdd, reduceCtorEq, Nat.reduceMul, e2, l2, e5, l5, e6, l6]
   all_goals ((try and_intros) <;> first | rfl | assumption | (rfl))
 clear e2 l2 e5 l5 e6 l6 hFr htab s
 rintro s σ ⟨htab, e2, l2, e5, l5, e6, l6⟩
 refine AW.seq_j (fun s' σ' => σ' = σ ∧ s'.t 4 = .c (.bool true)) ?_ ?_
 ·skip
  refine AW.reg0 ?_
  iterate 2 (refine S.g rfl rfl fun Y Z => ?_; simp only [zz, reduceIte, Nat.reduceEqDiff, Nat.reduceLT, Nat.reduceLeDiff, Nat.reduceAdd, reduceCtorEq, Nat.reduceMul, tt, e2, l2, e5, l5, e6, l6]; refine Z _ _ ?_; clear Z Y)
  all_goals (refine S.g rfl rfl fun Y Z => ?_; simp only [zz, reduceIte, Nat.reduceEqDiff, Nat.reduceLT, Nat.reduceLeDiff, Nat.reduceAdd, reduceCtorEq, Nat.reduceMul, e2, l2, e5, l5, e6, l6]; refine PCalls.eqto hraa ?_ <;> (refine Z _ _ ?_; clear Z Y))
  all_goals (refine S.g rfl rfl fun Y Z => ?_; simp only [zz, reduceIte, Nat.reduceEqDiff, Nat.reduceAdd, e2, l2, e5, l5, e6, l6]; refine Z _ _ ?_; clear Z Y)
  all_goals refine S.nil ?_
  all_goals simp only [ze, reduceIte, Nat.reduceEqDiff, Nat.reduceLT, Nat.reduceLeDiff, Nat.reduceAdd, reduceCtorEq, Nat.reduceMul, e2, l2, e5, l5, e6, l6]
  all_goals ((try and_intros) <;> first | rfl | assumption | (rfl))
 rintro s σ1 ⟨rfl, e4⟩
 refine AW.ret ?_
 all_goals simp only [zs, reduceIte, Nat.reduceEqDiff, Nat.reduceLT, Nat.reduceLeDiff, Nat.reduceAdd, reduceCtorEq, Nat.reduceMul, e4]
 first | exact ⟨htab, rfl⟩ | exact htab
end Go.Abs.M
namespace Go.Abs
open Go
def cxJ (W : World) (J : Nat → Prop) : Cx := { I := J, M := fun _ => .slice none 0 0, Z := fun _ => 0, nm := 0, L := fun _ => 0 }
theorem addr_block (a : Addr) (n : Nat) : (a.add n).block = a.block := by unfold Addr.add; split <;> rfl
section
variable {H : Type} {enc : TypeId × Value → H} {P : Program} {W : World} {held : Bool}
variable [Mode]
theorem open_rowJ {J : Nat → Prop} (ts : List TypeId) (hts : plainB P ts = true) (hJ : ∀ e ∈ ts, ∀ (fuel : Nat) (a : Addr) (cs : List Value) (x : DataW H × List MemPlace), P.cellsOf e ≠ 0 → W.cells? 0 a (P.cellsOf e) = some cs → DataW.trod enc P W 0 (fun _ => true) held fuel e cs = some x → J a.block) : ∀ (fuel : Nat) (t : TypeId) (cs : List Value) (d : DataW H) (ps : List MemPlace), t ∈ ts →
    DataW.trod enc P W 0 (fun _ => true) held fuel t cs = some (d, ps) → (∀ n ∈ d.weights P t, n ≤ reachBytes) → ∃ us, VRs W (cxJ W J) us cs ∧ Fit P fuel t us := by
  intro fuel
  induction fuel with
  | zero => intro t cs d ps _ h; simp [DataW.trod] at h
  | succ fuel ih =>
    intro t cs d ps ht h hwt
    have hpl := List.all_eq_true.1 hts t ht
    split at hpl
    · rename_i hu
      unfold DataW.trod at h
      rw [hu] at h
      split at h <;> simp_all
      rename_i b
      exact ⟨[.c (.bool b)], VRs.cons rfl (.c _) .nil, by simp [Fit, hu]⟩
    · rename_i k hu
      unfold DataW.trod at h
      rw [hu] at h
      split at h <;> simp_all
      rename_i k' n hk
      subst hk
      exact ⟨[.c (.int _ n)], VRs.cons rfl (.c _) .nil, by simp [Fit, hu, h.1.2]⟩
    · rename_i hu
      unfold DataW.trod at h
      rw [hu] at h
      split at h <;> simp_all
      rename_i s
      refine ⟨[.c (.string s)], VRs.cons rfl (.c _) .nil, ?_⟩
      rw [← h.2.1] at hwt
      simp [Fit, hu]
      simpa [DataW.weights] using hwt
    · rename_i e hu
      simp only [Bool.and_eq_true, bne_iff_ne, ne_eq, List.contains_iff_mem] at hpl
      obtain ⟨het, hce⟩ := hpl
      rcases DataW.trod_slice hu h with ⟨rfl, _⟩ | ⟨a, len, cap, elems, rest, n, hn, rfl, hx, hb, hl, hm, hlen, hel, hsp, hns⟩
      · exact ⟨[.sl []], VRs.cons rfl .nils .nil, by simp [Fit, hu]⟩
      · obtain rfl : fuel = n := by omega
        simp only [Prod.mk.injEq] at hx
        obtain ⟨hd, -⟩ := hx
        subst hd
        have hw0 := hwt _ (by simp only [DataW.weights, hu]; exact List.mem_cons_self)
        have hwe : ∀ i (x : DataW H × List MemPlace), elems[i]? = some x → ∀ m ∈ x.1.weights P e, m ≤ reachBytes := fun i x hi m hmm =>
          hwt m (by simp only [DataW.weights, hu]; exact List.mem_cons_of_mem _ (List.mem_append_left _ (weightsAll_mem (List.mem_map.2 ⟨x, List.mem_of_getElem? hi, rfl⟩) m hmm)))
        have hex : ∀ i, i < len → ∃ us : List V, ∃ cs', W.cells? 0 (a.add (i * P.cellsOf e)) (P.cellsOf e) = some cs' ∧ VRs W (cxJ W J) us cs' ∧ Fit P fuel e us := fun i hi => by
          have h1 := hel i hi
          rw [List.getElem?_eq_getElem (by omega)] at h1
          obtain ⟨cs', h2, h3⟩ := Option.bind_eq_some_iff.1 h1
          obtain ⟨us, h4, h5⟩ := ih e cs' _ _ het h3 (hwe i _ (List.getElem?_eq_getElem (by omega)))
          exact ⟨us, cs', h2, h4, h5⟩
        by_cases h0 : cap = 0
        · have hl0 : len = 0 := by omega
          subst h0; subst hl0
          exact ⟨[.sl []], VRs.cons rfl (.nile a) .nil, by simp [Fit, hu]⟩
        · obtain ⟨b, o, sp⟩ := a
          -- the address is a plain one, and its block is there
          have hfirst : (∃ v, W.cell? ⟨b, o, sp⟩ = some v) ∧ J b := by
            by_cases hl0 : 0 < len
            · have h1 := hel 0 hl0
              rw [List.getElem?_eq_getElem (by omega)] at h1
              obtain ⟨cs', h2, h3⟩ := Option.bind_eq_some_iff.1 h1
              have hJb : J b := by have := hJ e het _ _ _ _ hce h2 h3; rwa [addr_block] at this
              refine ⟨?_, hJb⟩
              obtain ⟨_, hcl, hce'⟩ := World.cells?_some h2
              have := hce' 0 (by omega)
              rw [Nat.zero_mul] at this
              have e0 : ((⟨b, o, sp⟩ : Addr).add 0).add 0 = ⟨b, o, sp⟩ := rfl
              rw [e0] at this
              rw [this]
              exact ⟨cs'[0]'(by omega), List.getElem?_eq_getElem (by omega)⟩
            · have hl0 : len = 0 := by omega
              subst hl0
              obtain ⟨hr, hr2⟩ := hsp rfl
              have h1 := hr2 0 (by omega)
              rw [List.getElem?_eq_getElem (by omega)] at h1
              obtain ⟨cs', h2, h3⟩ := Option.bind_eq_some_iff.1 h1
              have hJb : J b := by have := hJ e het _ _ _ _ hce h2 h3; rwa [addr_block] at this
              refine ⟨?_, hJb⟩
              obtain ⟨_, hcl, hce'⟩ := World.cells?_some h2
              have := hce' 0 (by omega)
              have e0 : ((⟨b, o, sp⟩ : Addr).add ((0 + 0) * P.cellsOf e)).add 0 = ⟨b, o, sp⟩ := by simp [Addr.add]
              rw [e0] at this
              rw [this]
              exact ⟨cs'[0]'(by omega), List.getElem?_eq_getElem (by omega)⟩
          obtain ⟨⟨v0, hv0⟩, hJb⟩ := hfirst
          obtain rfl : sp = none := World.cell?_spot hv0
          have hbI : (cxJ W J).I b := hJb
          obtain ⟨F, hF⟩ := choose_below (p := fun i (us : List V) => ∃ cs', W.cells? 0 ((⟨b, o, none⟩ : Addr).add (i * P.cellsOf e)) (P.cellsOf e) = some cs' ∧ VRs W (cxJ W J) us cs' ∧ Fit P fuel e us) hex
          obtain ⟨G, hG⟩ := choose_below (p := fun i (cs' : List Value) => W.cells? 0 ((⟨b, o, none⟩ : Addr).add (i * P.cellsOf e)) (P.cellsOf e) = some cs' ∧ VRs W (cxJ W J) (F i) cs' ∧ Fit P fuel e (F i)) hF
          have hGl : ∀ i, i < len → (G i).length = P.cellsOf e := fun i hi => (World.cells?_some (hG i hi).1).2.1
          have hFl : ∀ i, i < len → (F i).length = P.cellsOf e := fun i hi => by rw [(hG i hi).2.1.1]; exact hGl i hi
          have hgi : ∀ (i : Nat) (x : List V), ((List.range len).map F)[i]? = some x → i < len ∧ x = F i := fun i x hx => by
            rw [List.getElem?_map] at hx
            by_cases hi : i < len
            · simp [hi] at hx; exact ⟨hi, hx.symm⟩
            · simp [hi] at hx
          refine ⟨[.sl ((List.range len).map F)], VRs.cons rfl ?_ .nil, ?_⟩
          · have := VR.sl (w := W) (cx := cxJ W J) (es := (List.range len).map F) (sz := P.cellsOf e) (b := b) (o := o) (cap := cap) (fun i j => (G i).getD j undef) hbI (by simpa using hl)
              (fun i x hx => by obtain ⟨hi, rfl⟩ := hgi i x hx; exact hFl i hi)
              (fun i j hi hj => by
                have hi : i < len := by simpa using hi
                obtain ⟨_, _, hc⟩ := World.cells?_some (hG i hi).1
                have := hc j hj
                rw [Addr.add_lit, Addr.add_lit] at this
                rw [this, List.getElem?_eq_getElem (by rw [hGl i hi]; exact hj)]
                simp [List.getD, List.getElem?_eq_getElem (show j < (G i).length by rw [hGl i hi]; exact hj)])
              (fun i x j v hx hv => by
                obtain ⟨hi, rfl⟩ := hgi i x hx
                have hj : j < (G i).length := by
                  have := (List.getElem?_eq_some_iff.1 hv).1
                  rw [hFl i hi] at this; rw [hGl i hi]; exact this
                have := (hG i hi).2.1.2.2 j v ((G i)[j]) hv (List.getElem?_eq_getElem hj)
                simpa [List.getD, List.getElem?_eq_getElem hj] using this)
              (fun i j hi hj => by
                have hi : i < len := by simpa using hi
                have hj : j < (G i).length := by rw [hGl i hi]; exact hj
                have := (hG i hi).2.1.2.1 ((G i)[j]) (List.getElem_mem hj)
                simpa [List.getD, List.getElem?_eq_getElem hj] using this)
            simpa using this
          · simp only [Fit, hu]
            refine ⟨_, rfl, ?_, fun x hx => ?_⟩
            · rw [List.length_map, List.length_range]
              rw [List.length_map, hlen] at hw0
              exact Nat.le_trans (Nat.mul_le_mul_right _ (Nat.le_add_right _ _)) hw0
            · obtain ⟨i, hi, rfl⟩ := List.mem_map.1 hx
              have hi : i < len := by simpa using hi
              exact ⟨hFl i hi, (hG i hi).2.2⟩
    · rename_i fs hu
      rw [Bool.and_eq_true] at hpl
      obtain ⟨hpl, hco⟩ := hpl
      have hpl : ∀ f ∈ fs.toList, f.type ∈ ts := fun f hf => by
        have := List.all_eq_true.1 hpl f hf; simpa using this
      obtain ⟨xs, n, hn, hx, hcl, hxl, hfs⟩ := DataW.trod_struct hu h
      obtain rfl : fuel = n := by omega
      simp only [Prod.mk.injEq] at hx
      obtain ⟨hd, -⟩ := hx
      subst hd
      obtain ⟨us, h1, h2, h3⟩ := open_fields (W := W) (cx := cxJ W J) (Ft := Fit P fuel) hcl fs.toList 0 hco (fun f hf => by
        obtain ⟨i, hi, hfi⟩ := List.getElem_of_mem hf
        have hi' : i < fs.size := by simpa using hi
        have hfi' : fs[i]? = some f := by rw [Array.getElem?_eq_getElem hi']; simpa using hfi
        have h4 := hfs i f hfi'
        rw [List.getElem?_eq_getElem (by omega)] at h4
        refine ih f.type _ _ _ (hpl f hf) h4 (fun m hm => hwt m ?_)
        simp only [DataW.weights, hu]
        refine weightsEach_mem (i := i) (t := f.type) (d := (xs[i]'(by omega)).1) ?_ ?_ m hm
        · rw [List.getElem?_map, List.getElem?_eq_getElem hi, hfi]; rfl
        · rw [List.getElem?_map, List.getElem?_eq_getElem (by omega)]; rfl)
      rw [List.drop_zero] at h1
      exact ⟨us, h1, by simp only [Fit, hu]; exact ⟨by simpa using h2, by simpa using h3⟩⟩
    · cases hpl
def freeB (P : Program) : Nat → TypeId → Bool
  | 0, _ => false
  | n + 1, t => match P.underlying t with
    | some .bool | some .string | some (.slice _) => true
    | some (.int k) => decide (k ≠ .u64)
    | some (.struct fs) => match fs[0]? with
      | some f => f.offset == 0 && P.cellsOf f.type != 0 && freeB P n f.type
      | none => false
    | _ => false
omit [Mode] in
theorem free_no : ∀ (n fuel : Nat) (t : TypeId) (cs : List Value) (x : DataW H × List MemPlace), freeB P n t = true → (∀ c ∈ cs, ∃ z, c = .int .u64 z) → DataW.trod enc P W 0 (fun _ => true) held fuel t cs = some x → False
  | 0, _, _, _, _, h, _, _ => by cases h
  | n + 1, fuel, t, cs, x, h, hc, ht => by
    have one : ∀ v, cs = [v] → ∃ z, v = .int .u64 z := fun v e => hc v (by rw [e]; exact List.mem_cons_self)
    cases fuel with
    | zero => simp [DataW.trod] at ht
    | succ fuel =>
      unfold freeB at h
      split at h
      · rename_i hu
        unfold DataW.trod at ht
        rw [hu] at ht
        split at ht <;> simp_all
      · rename_i hu
        unfold DataW.trod at ht
        rw [hu] at ht
        split at ht <;> simp_all
      · rename_i hu
        unfold DataW.trod at ht
        rw [hu] at ht
        split at ht <;> simp_all
      · rename_i k hu
        unfold DataW.trod at ht
        rw [hu] at ht
        split at ht <;> simp_all
      · rename_i fs hu
        obtain ⟨xs, m, hm, hx, hcl, hxl, hfs⟩ := DataW.trod_struct hu ht
        split at h
        · rename_i f hf
          simp only [Bool.and_eq_true, beq_iff_eq, bne_iff_ne] at h
          have h4 := hfs 0 f hf
          have h0 : 0 < xs.length := by
            have := (Array.getElem?_eq_some_iff.1 hf).1
            omega
          rw [List.getElem?_eq_getElem h0] at h4
          exact free_no n m f.type _ _ h.2 (fun c hcm => hc c (List.mem_of_mem_drop (List.mem_of_mem_take hcm))) h4
        · cases h
      · cases h
theorem open_argJ {J : Nat → Prop} {t : TypeId} {v : Value} {d : DataW H} {ps : List MemPlace} (ts : List TypeId) (hts : plainB P ts = true) (ht : t ∈ ts)
  (hJ : ∀ e ∈ ts, ∀ (fuel : Nat) (a : Addr) (cs : List Value) (x : DataW H × List MemPlace), P.cellsOf e ≠ 0 → W.cells? 0 a (P.cellsOf e) = some cs → DataW.trod enc P W 0 (fun _ => true) true fuel e cs = some x → J a.block)
  (h : DataW.Trod enc P W 0 (fun _ => true) true t v d ps) (hw : ∀ n ∈ d.weights P t, n ≤ reachBytes) : ∃ n us, VRs W (cxJ W J) us v.cells.toList ∧ Fit P n t us := by
 obtain ⟨fuel, hf⟩ := h
 obtain ⟨us, h1, h2⟩ := open_rowJ ts hts hJ fuel t _ d ps ht hf hw
 exact ⟨fuel, us, h1, h2⟩
theorem apart_free {ts : List TypeId} (n : Nat) (hf : ts.all (freeB P n) = true) {us : List Value} {T p q : Nat} (h0 : W.heap[0]? = some (.cells ⟨us⟩ T (p, q))) (hu : ∀ c ∈ us, ∃ z, c = .int .u64 z) :
  ∀ e ∈ ts, ∀ (fuel : Nat) (a : Addr) (cs : List Value) (x : DataW H × List MemPlace), P.cellsOf e ≠ 0 → W.cells? 0 a (P.cellsOf e) = some cs → DataW.trod enc P W 0 (fun _ => true) held fuel e cs = some x → a.block < W.heap.size ∧ a.block ≠ 0 := fun e he fuel a cs x hne hcs ht => by
 obtain ⟨_, hcl, hce⟩ := World.cells?_some hcs
 have hall : ∀ i, i < P.cellsOf e → ∃ v, W.cell? (a.add i) = some v ∧ cs[i]? = some v := fun i hi => by
  have := hce i hi
  exact ⟨cs[i]'(by omega), by rw [this]; exact List.getElem?_eq_getElem (by omega), List.getElem?_eq_getElem (by omega)⟩
 obtain ⟨v0, hv0, _⟩ := hall 0 (by omega)
 refine ⟨lt_of_cell hv0, fun hb => ?_⟩
 refine free_no n fuel e cs x (List.all_eq_true.1 hf e he) (fun c hc => ?_) ht
 obtain ⟨i, hi⟩ := List.getElem?_of_mem hc
 have hil : i < P.cellsOf e := by have := (List.getElem?_eq_some_iff.1 hi).1; omega
 obtain ⟨v, hv, hvi⟩ := hall i hil
 rw [hi] at hvi
 injection hvi with hvi
 subst hvi
 have hbl : (a.add i).block = 0 := by rw [addr_block]; exact hb
 unfold World.cell? at hv
 rw [hbl, h0] at hv
 simp only at hv
 split at hv
 ·cases hv
 ·exact hu c (by
   have := Array.mem_of_getElem? hv
   simpa using this)
end
end Go.Abs
namespace Go.Abs.M
open Go Go.Abs Go.Proofs
open Go.Proofs.YtkijhgplmikboaaGreatDoor.Rows (uptoBulk uptoBulkAll)
set_option maxRecDepth 20000
theorem co2 : Tryz.prog.cellsOf 2 = 1 := by kernel_rfl
theorem co3 : Tryz.prog.cellsOf 3 = 1 := by kernel_rfl
theorem co9 : Tryz.prog.cellsOf 9 = 1 := by kernel_rfl
theorem co22 : Tryz.prog.cellsOf 22 = 1 := by kernel_rfl
theorem co43 : Tryz.prog.cellsOf 43 = 3 := by kernel_rfl
theorem co45 : Tryz.prog.cellsOf 45 = 5 := by kernel_rfl
theorem co47 : Tryz.prog.cellsOf 47 = 11 := by kernel_rfl
theorem co30 : Tryz.prog.cellsOf 30 = 1 := by kernel_rfl
theorem co31 : Tryz.prog.cellsOf 31 = 1 := by kernel_rfl
theorem co33 : Tryz.prog.cellsOf 33 = 2 := by kernel_rfl
theorem co41 : Tryz.prog.cellsOf 41 = 7 := by kernel_rfl
theorem co48 : Tryz.prog.cellsOf 48 = 1 := by kernel_rfl
theorem len1 {us : List V} (h : us.length = 1) : ∃ x0, us = [x0] := by
 match us, h with
 | [x0], _ => exact ⟨x0, rfl⟩
theorem len11 {us : List V} (h : us.length = 11) : ∃ x0 x1 x2 x3 x4 x5 x6 x7 x8 x9 x10, us = [x0, x1, x2, x3, x4, x5, x6, x7, x8, x9, x10] := by
 match us, h with
 | [x0, x1, x2, x3, x4, x5, x6, x7, x8, x9, x10], _ => exact ⟨x0, x1, x2, x3, x4, x5, x6, x7, x8, x9, x10, rfl⟩
theorem len2 {us : List V} (h : us.length = 2) : ∃ x0 x1, us = [x0, x1] := by
 match us, h with
 | [x0, x1], _ => exact ⟨x0, x1, rfl⟩
theorem len7 {us : List V} (h : us.length = 7) : ∃ x0 x1 x2 x3 x4 x5 x6, us = [x0, x1, x2, x3, x4, x5, x6] := by
 match us, h with
 | [x0, x1, x2, x3, x4, x5, x6], _ => exact ⟨x0, x1, x2, x3, x4, x5, x6, rfl⟩
theorem inI64_of {x : Int} (h : (Lit.int .i64 x).wf = true) : inI64 x := by
 simp [Lit.wf, IntKind.min, IntKind.max, IntKind.signed, IntKind.bits] at h
 unfold inI64; omega
theorem open_val {n : Nat} {x0 x1 x2 : V} (h : Fit Tryz.prog n 43 [x0, x1, x2]) : ∃ v : Val, [x0, x1, x2] = encVal v ∧ v.s.size ≤ reachBytes ∧ inI64 v.n := by
 obtain ⟨_, m, _, hf⟩ := h.st Tryz.underlying43
 have h0 : Fit Tryz.prog m 3 (([x0, x1, x2].drop 0).take (Tryz.prog.cellsOf 3)) := hf 0 _ rfl
 have h1 : Fit Tryz.prog m 2 (([x0, x1, x2].drop 1).take (Tryz.prog.cellsOf 2)) := hf 1 _ rfl
 have h2 : Fit Tryz.prog m 9 (([x0, x1, x2].drop 2).take (Tryz.prog.cellsOf 9)) := hf 2 _ rfl
 simp only [co3, co2, co9, List.drop_zero, List.take_succ_cons, List.take_zero, List.drop_succ_cons] at h0 h1 h2
 obtain ⟨a, e0, _⟩ := h0.int Tryz.underlying3
 obtain ⟨b, e1, hb⟩ := h1.int Tryz.underlying2
 obtain ⟨s, e2, hs⟩ := h2.str Tryz.underlying9
 simp only [List.cons.injEq, and_true] at e0 e1 e2
 exact ⟨⟨a, b, s⟩, by rw [e0, e1, e2]; rfl, hs, inI64_of hb⟩
def opdFits (o : Opd) : Prop := o.var.size ≤ reachBytes ∧ o.attr.size ≤ reachBytes ∧ o.v.s.size ≤ reachBytes ∧ inI64 o.v.n
theorem open_opd {n : Nat} {x0 x1 x2 x3 x4 : V} (h : Fit Tryz.prog n 45 [x0, x1, x2, x3, x4]) : ∃ o : Opd, [x0, x1, x2, x3, x4] = encO o ∧ opdFits o := by
 obtain ⟨_, m, _, hf⟩ := h.st Tryz.underlying45
 have h0 : Fit Tryz.prog m 9 (([x0, x1, x2, x3, x4].drop 0).take (Tryz.prog.cellsOf 9)) := hf 0 _ rfl
 have h1 : Fit Tryz.prog m 9 (([x0, x1, x2, x3, x4].drop 1).take (Tryz.prog.cellsOf 9)) := hf 1 _ rfl
 have h2 : Fit Tryz.prog m 43 (([x0, x1, x2, x3, x4].drop 2).take (Tryz.prog.cellsOf 43)) := hf 2 _ rfl
 simp only [co9, co43, List.drop_zero, List.take_succ_cons, List.take_zero, List.drop_succ_cons] at h0 h1 h2
 obtain ⟨s, e0, hs⟩ := h0.str Tryz.underlying9
 obtain ⟨t, e1, ht⟩ := h1.str Tryz.underlying9
 obtain ⟨v, e2, hv⟩ := open_val h2
 simp only [List.cons.injEq, and_true] at e0 e1
 exact ⟨⟨s, t, v⟩, by rw [e0, e1, e2]; rfl, hs, ht, hv⟩
def cndFits (c : Cnd) : Prop := opdFits c.l ∧ opdFits c.r
theorem open_cnd {n : Nat} {us : List V} (hl : us.length = 11) (h : Fit Tryz.prog n 47 us) : ∃ c : Cnd, us = encC c ∧ cndFits c := by
 obtain ⟨_, m, _, hf⟩ := h.st Tryz.underlying47
 have h0 : Fit Tryz.prog m 45 ((us.drop 0).take (Tryz.prog.cellsOf 45)) := hf 0 _ rfl
 have h1 : Fit Tryz.prog m 3 ((us.drop 5).take (Tryz.prog.cellsOf 3)) := hf 1 _ rfl
 have h2 : Fit Tryz.prog m 45 ((us.drop 6).take (Tryz.prog.cellsOf 45)) := hf 2 _ rfl
 obtain ⟨x0, x1, x2, x3, x4, x5, x6, x7, x8, x9, x10, rfl⟩ := len11 hl
 simp only [co45, co3, List.drop_zero, List.take_succ_cons, List.take_zero, List.drop_succ_cons] at h0 h1 h2
 obtain ⟨a, e0, ha⟩ := open_opd h0
 obtain ⟨r, e1, _⟩ := h1.int Tryz.underlying3
 obtain ⟨b, e2, hb⟩ := open_opd h2
 simp only [List.cons.injEq, and_true] at e1
 refine ⟨⟨a, r, b⟩, ?_, ha, hb⟩
 show [x0, x1, x2, x3, x4] ++ [x5] ++ [x6, x7, x8, x9, x10] = encO a ++ [_] ++ encO b
 rw [e0, e1, e2]
theorem okC_of {c : Cnd} (h : cndFits c) : okC c := by
 have hr : reachBytes = 140737488351232 := rfl
 obtain ⟨⟨h1, h2, h3, _⟩, h4, h5, h6, _⟩ := h
 exact ⟨⟨by omega⟩, ⟨by omega⟩⟩
theorem cI_of {c : Cnd} (h : cndFits c) : cI c := ⟨h.1.2.2.2, h.2.2.2.2⟩
theorem open_conds {n : Nat} {x : V} (h : Fit Tryz.prog n 22 [x]) : ∃ l : List Cnd, x = .sl (l.map encC) ∧ (∀ c ∈ l, okC c) ∧ (∀ c ∈ l, cI c) ∧ l.length < 4611686018427387904 ∧ l.length * 136 ≤ reachBytes := by
 have hr : reachBytes = 140737488351232 := rfl
 obtain ⟨es, e4, hes, k, _, hk⟩ := h.sl Tryz.underlying22
 simp only [co47] at hk
 obtain ⟨l, rfl, hl⟩ := rows_of (f := encC) (p := cndFits) fun x hx => open_cnd (hk x hx).1 (hk x hx).2
 simp only [List.cons.injEq, and_true] at e4
 refine ⟨l, e4, fun c hc => okC_of (hl c hc), fun c hc => cI_of (hl c hc), ?_⟩
 rw [List.length_map, by47] at hes; omega
structure opFits (o : OpS) : Prop where
  ok : okOpN o
  tests : ∀ c ∈ o.tests, cI c
  conds : ∀ c ∈ o.conds, cI c
  tb : o.tests.length * 136 ≤ reachBytes
  cb : o.conds.length * 136 ≤ reachBytes
theorem open_op {n : Nat} {us : List V} (hl : us.length = 7) (h : Fit Tryz.prog n 41 us) : ∃ o : OpS, us = encOp o ∧ opFits o := by
 have hr : reachBytes = 140737488351232 := rfl
 obtain ⟨_, m, _, hf⟩ := h.st Tryz.underlying41
 have h0 : Fit Tryz.prog m 3 ((us.drop 0).take (Tryz.prog.cellsOf 3)) := hf 0 _ rfl
 have h1 : Fit Tryz.prog m 9 ((us.drop 1).take (Tryz.prog.cellsOf 9)) := hf 1 _ rfl
 have h2 : Fit Tryz.prog m 9 ((us.drop 2).take (Tryz.prog.cellsOf 9)) := hf 2 _ rfl
 have h3 : Fit Tryz.prog m 22 ((us.drop 3).take (Tryz.prog.cellsOf 22)) := hf 3 _ rfl
 have h4 : Fit Tryz.prog m 22 ((us.drop 4).take (Tryz.prog.cellsOf 22)) := hf 4 _ rfl
 have h5 : Fit Tryz.prog m 2 ((us.drop 5).take (Tryz.prog.cellsOf 2)) := hf 5 _ rfl
 have h6 : Fit Tryz.prog m 3 ((us.drop 6).take (Tryz.prog.cellsOf 3)) := hf 6 _ rfl
 obtain ⟨x0, x1, x2, x3, x4, x5, x6, rfl⟩ := len7 hl
 simp only [co3, co9, co22, co2, List.drop_zero, List.take_succ_cons, List.take_zero, List.drop_succ_cons] at h0 h1 h2 h3 h4 h5 h6
 obtain ⟨a, e0, _⟩ := h0.int Tryz.underlying3
 obtain ⟨s, e1, hs⟩ := h1.str Tryz.underlying9
 obtain ⟨t, e2, ht⟩ := h2.str Tryz.underlying9
 obtain ⟨cs, e3, hcs, hci, hcl, hcb⟩ := open_conds h3
 obtain ⟨ds, e4, hds, hdi, hdl, hdb⟩ := open_conds h4
 obtain ⟨w, e5, _⟩ := h5.int Tryz.underlying2
 obtain ⟨b, e6, _⟩ := h6.int Tryz.underlying3
 simp only [List.cons.injEq, and_true] at e0 e1 e2 e5 e6
 exact ⟨⟨a, s, t, cs, ds, w, b⟩, by rw [e0, e1, e2, e3, e4, e5, e6]; rfl, ⟨⟨hcl, hdl⟩, by show s.size < _; omega, by show t.size < _; omega⟩, hci, hdi, hcb, hdb⟩
theorem open_ints {n : Nat} {us : List V} (hl : us.length = 1) (h : Fit Tryz.prog n 48 us) : ∃ l : List Int, us = encF l ∧ l.length * 8 ≤ reachBytes ∧ ∀ z ∈ l, inI64 z := by
 obtain ⟨x0, rfl⟩ := len1 hl
 obtain ⟨es, e4, hes, k, _, hk⟩ := h.sl Tryz.underlying48
 simp only [co3] at hk
 obtain ⟨l, rfl, hl⟩ := rows_of (f := encI) (p := inI64) fun x hx => by
  obtain ⟨y, hy⟩ := len1 (hk x hx).1
  subst hy
  obtain ⟨z, e, hz⟩ := (hk _ hx).2.int Tryz.underlying3
  exact ⟨z, e, inI64_of hz⟩
 rw [List.length_map, by3] at hes
 exact ⟨l, e4, hes, hl⟩
structure plFits (x : Pln) : Prop where
  op : ∀ o ∈ x.ops, opFits o
  ob : x.ops.length * 104 ≤ reachBytes
  fb : x.from_.length * 24 ≤ reachBytes
  fr : ∀ f ∈ x.from_, f.length * 8 ≤ reachBytes ∧ ∀ z ∈ f, inI64 z
theorem open_pln {n : Nat} {us : List V} (hl : us.length = 2) (h : Fit Tryz.prog n 33 us) : ∃ x : Pln, us = encPl x ∧ plFits x := by
 obtain ⟨_, m, _, hf⟩ := h.st Tryz.underlying33
 have h0 : Fit Tryz.prog m 30 ((us.drop 0).take (Tryz.prog.cellsOf 30)) := hf 0 _ rfl
 have h1 : Fit Tryz.prog m 31 ((us.drop 1).take (Tryz.prog.cellsOf 31)) := hf 1 _ rfl
 obtain ⟨x0, x1, rfl⟩ := len2 hl
 simp only [co30, co31, List.drop_zero, List.take_succ_cons, List.take_zero, List.drop_succ_cons] at h0 h1
 obtain ⟨es, e0, hes, k, _, hk⟩ := h0.sl Tryz.underlying30
 simp only [co41] at hk
 obtain ⟨l, rfl, hl⟩ := rows_of (f := encOp) (p := opFits) fun x hx => open_op (hk x hx).1 (hk x hx).2
 obtain ⟨fs, e1, hfs, k2, _, hk2⟩ := h1.sl Tryz.underlying31
 simp only [co48] at hk2
 obtain ⟨r, rfl, hr⟩ := rows_of (f := encF) (p := fun f => f.length * 8 ≤ reachBytes ∧ ∀ z ∈ f, inI64 z) fun x hx => by
  obtain ⟨a, b, c, d⟩ := open_ints (hk2 x hx).1 (hk2 x hx).2
  exact ⟨a, b, c, d⟩
 simp only [List.cons.injEq, and_true] at e0 e1
 rw [List.length_map, by41] at hes
 rw [List.length_map, by48] at hfs
 exact ⟨⟨l, r⟩, by rw [e0, e1]; rfl, hl, hes, hfs, hr⟩
def plainTs : List TypeId := [25, 23, 22, 47, 45, 43, 27, 41, 30, 48, 31, 33, 9, 3, 2]
theorem plain_ok : plainB Tryz.prog plainTs = true := by kernel_rfl
theorem plain_free : plainTs.all (freeB Tryz.prog 8) = true := by kernel_rfl
theorem okWide_agg {P : Program} {W : World} {r : Reach} {base : Nat} {t : TypeId} {fs : Array Field} {v : Value} (hu : P.underlying t = some (.struct fs)) (h : Value.okWide P W r base t v) : ∃ cs, v = .agg cs ∧ cs.size = P.cellsOf t := by
 simp only [Value.okWide, hu] at h
 obtain ⟨cs, h1, h2, _⟩ := h
 exact ⟨cs, h1, h2⟩
def offT (W : World) (g : Nat) : Prop := g < W.heap.size ∧ g ≠ 0
section
variable {H : Type} {enc : TypeId × Value → H} {W : World} {base : Nat} {v : Value} {d : DataW H} {ps : List MemPlace} {us : List Value} {T p q : Nat}
theorem arg_pln (h0 : W.heap[0]? = some (.cells ⟨us⟩ T (p, q))) (hu : ∀ c ∈ us, ∃ z, c = .int .u64 z) (hval : Value.okWide Tryz.prog W .any base 33 v)
  (h : DataW.Trod enc Tryz.prog W 0 (fun _ => true) true 33 v d ps) (hw : ∀ n ∈ d.weights Tryz.prog 33, n ≤ reachBytes) : ∃ x : Pln, VR W (cxJ W (offT W)) (.agg (encPl x)) v ∧ VRs W (cxJ W (offT W)) (encPl x) v.cells.toList ∧ plFits x := by
 obtain ⟨n, us, h1, h2⟩ := open_argJ (J := offT W) (P := Tryz.prog) (t := 33) plainTs plain_ok (by decide) (apart_free 8 plain_free h0 hu) h hw
 obtain ⟨cs, rfl, hcs⟩ := okWide_agg Tryz.underlying33 hval
 have hl : us.length = 2 := by rw [h1.1]; simpa [Value.cells, co33] using hcs
 obtain ⟨x, rfl, hok⟩ := open_pln hl h2
 exact ⟨x, VR.of_row h1, h1, hok⟩
end
theorem _root_.Go.Abs.ACalls.belowT {tq : Nat × Nat × Nat} {f : FuncId} {args : List V} {R : V → Prop} (h : ACalls Tryz.prog f args (tabH tq) (fun v σ' => σ' = tabH tq ∧ R v)) {W : World} {xs : List Value}
  (h0 : W.heap[0]? = some (.cells ⟨Lib.pow10Tab.map fun z => Value.int .u64 z⟩ tq.1 (tq.2.1, tq.2.2))) (ha : VAs W (cxJ W (offT W)) args xs) :
  Calls Tryz.prog f ⟨xs⟩ W (fun e w' => ∃ v r cx', e = .returned r ∧ VR w' cx' v r ∧ R v ∧ RowKit.Below W.heap.size W w') := by
 have own0 : ∀ {cx : Cx} {g : Nat}, (tabH tq).own cx g → g = 0 := fun {cx g} ho => by
  rcases ho with ⟨c, hc⟩ | ⟨k, x, hk, _⟩
  ·by_cases e : g = 0
   ·exact e
   ·simp [tabH, e, Hp.empty] at hc
  ·simp [tabH, Hp.empty] at hk
 have hH : HR (cxJ W (offT W)) (tabH tq) W := {
  obj := fun g c hc => by
   obtain rfl := own0 (cx := cxJ W (offT W)) (.inl ⟨c, hc⟩)
   simp [tabH] at hc
   subst hc
   exact ⟨_, h0, .told _ _ _ _⟩
  gr := fun k T es hk => by simp [tabH, Hp.empty] at hk
  two := fun k k' x x' g hk => by simp [tabH, Hp.empty] at hk
  mix := fun k x g c hk => by simp [tabH, Hp.empty] at hk
  apart := fun g hg hi => hi.2 (own0 hg)
  ilt := fun g hi => hi.1 }
 refine (h.2 (cxJ W (offT W)) W xs hH ha).mono fun e w' ⟨v, r, cx', σ', h1, h2, h3, h4, h5⟩ => ⟨v, r, cx', h1, h2, h5, ⟨h3.ext.os, h3.ext.tape, h3.ext.output.1, h3.ext.size, fun k hk => ?_⟩⟩
 by_cases e : k = 0
 ·subst e
  subst h4
  rw [tab_at (tq := tq) h3.heap (by simp [tabH]), h0]
 ·exact h3.ext.block k hk fun ho => e (own0 ho)
end Go.Abs.M
namespace Go.Abs.M
open Go Go.Abs Go.Proofs
open Go.Proofs.YtkijhgplmikboaaGreatDoor
set_option maxRecDepth 100000
theorem gTabT : (Tryz.prog.globals[0]?).map (·.type) = some 250 := by kernel_rfl
theorem co250 : Tryz.prog.cellsOf 250 = 20 := by kernel_rfl
theorem co219 : Tryz.prog.cellsOf 219 = 1 := by kernel_rfl
def dataVals : DataW Unit → Array Value
  | .agg ds => ⟨ds.map fun d => match d with
    | .lit (.int k n) => .int k n
    | _ => undef⟩
  | _ => #[]
def lay (vs : Array Value) : Obj → Obj
  | .cells _ t frozen => .cells vs t frozen
  | o => o
theorem tabs_third {W : World} {x y : String × DataW Unit} {e : TypeId} {n : Nat} {t : TypeId} (hty : (Tryz.prog.globals[0]?).map (·.type) = some t) (ht : Tryz.prog.underlying t = some (.array n e)) (he : Tryz.prog.underlying e = some (.int .u64)) (hce : Tryz.prog.cellsOf e = 1) (hct : Tryz.prog.cellsOf t = n)
  (h : laidMet Tryz.prog [x, y, ("internal/strconv.uint64pow10", Lib.tabData .u64 Lib.pow10Tab)] W) : ∃ T p q, W.heap[0]? = some (.cells ⟨Lib.pow10Tab.map fun z => Value.int .u64 z⟩ T (p, q)) := by
 obtain ⟨ps, ⟨_, _, _, _, _, _, _, _, _, _, ⟨_, _, _, _, _, _, _, _, _, _, ⟨g', t', cs, fuel, p, q, hg', ht', hvar, hd, _, _⟩, _⟩, _⟩, _⟩ := h
 obtain rfl := Option.some.inj (gTab.symm.trans hg')
 obtain rfl := Option.some.inj (hty.symm.trans ht')
 have hcs := Lib.cells_of_tab ht he hce hct hd
 unfold World.var? at hvar
 rw [gTab] at hvar
 simp only [Option.bind_some] at hvar
 split at hvar
 ·rename_i c T fr hh
  injection hvar with hvar
  refine ⟨T, fr.1, fr.2, ?_⟩
  rw [hh, hvar, arr1 hcs]
 ·cases hvar
theorem table_of {W : World} (h : laidMetH Tryz.prog [("math/bits.deBruijn32tab", Rows.laid_math_bits_deBruijn32tab), ("math/bits.deBruijn64tab", Rows.laid_math_bits_deBruijn64tab), ("internal/strconv.uint64pow10", Rows.laid_internal_strconv_uint64pow10)] W) :
  ∃ T p q, W.heap[0]? = some (.cells ⟨Lib.pow10Tab.map fun z => Value.int .u64 z⟩ T (p, q)) :=
 tabs_third gTabT Tryz.underlying250 Tryz.underlying219 co219 co250 h
theorem pow_u64 : ∀ c ∈ Lib.pow10Tab.map fun z => Value.int .u64 z, ∃ z, c = .int .u64 z := fun c hc => by
 obtain ⟨z, _, rfl⟩ := List.mem_map.1 hc
 exact ⟨z, rfl⟩
end Go.Abs.M
namespace Go.Abs.M
open Go Go.Abs Go.Proofs
theorem fit_of {x : Pln} (h : plFits x) : fitPl x := by
 have hr : reachBytes = 140737488351232 := rfl
 have h1 := h.ob
 have h2 := h.fb
 refine ⟨by unfold reach; omega, by unfold reach; omega, fun o ho => ?_, fun o ho => ?_, fun f hf => ?_⟩
 ·have := (h.op o ho).tb; unfold reach; omega
 ·have := (h.op o ho).cb; unfold reach; omega
 ·have := (h.fr f hf).1; unfold reach; omega
end Go.Abs.M
