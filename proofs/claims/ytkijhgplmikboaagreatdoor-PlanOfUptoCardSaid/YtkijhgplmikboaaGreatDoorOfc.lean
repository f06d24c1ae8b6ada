import Derived.Test.YtkijhgplmikboaaGreatDoorOfb
import Derived.Maps.Own
import Derived.Sort.KeysCollected
import Derived.Test.YtkijhgplmikboaaGreatDoorRows
import Derived.Shelf.SlIter.Nil
import Derived.Shelf.SortM.Plain
import Derived.Shelf.SortM.SortNone
import Derived.Shelf.Strconv.Itoa4
import Derived.Lib.ItoaLen
set_option linter.all false
set_option maxHeartbeats 4000000
namespace Go.Abs.M
open Go Go.Abs Go.Proofs
variable [Mode]
set_option maxRecDepth 20000
def ltS (a b : ByteArray) : Bool := Op.bytesLess a.toList b.toList
def putS (l : List ByteArray) (s : ByteArray) : List ByteArray := if hasS l s then l else l.takeWhile (ltS · s) ++ s :: l.dropWhile (ltS · s)
theorem len_str (l : List ByteArray) : ∀ (e : List V), e ∈ l.map encS → e.length = 1 := fun e he => by
 obtain ⟨a, _, rfl⟩ := List.mem_map.1 he; rfl
theorem take_cons {l : List ByteArray} {i : Nat} {x : ByteArray} (h : l[i]? = some x) (r : List ByteArray) : l.take i ++ x :: r = l.take (i + 1) ++ r := by
 rw [List.take_add_one, h, List.append_assoc]; rfl
theorem rput_spec (l : List ByteArray) (str : ByteArray) (hl : l.length < 1048576) : PCalls Tryz.prog 126 [.sl (l.map encS), .c (.string str)] (fun v => v = .sl ((putS l str).map encS)) := by
 refine PCalls.intro Tryz.call126 Tryz.func126 rfl Tryz.ntmps126 Tryz.results126 (by simp) ?_
 refine AW.sr trivial ?_
 refine AW.seq_k fun K2 h2 => ?_
 refine AW.seq_k fun K3 h3 => ?_
 refine AW.reg0 ?_
 iterate 2 refine S.one trivial ?_
 (refine S.g rfl rfl fun Y Z => ?_; simp only [zz, simprocAttr, -Int.reduceNatCast', -Int.reduceToNat]; refine PCalls.eqto (rhasS_spec _ _ (by omega)) ?_ <;> (refine Z _ _ ?_; clear Z Y))
 all_goals (refine S.nil ?_; simp only [ze, simprocAttr]; apply_assumption)
 refine AW.cond (b := hasS l str) (by simp [ev]) (fun hb => ?_) (fun hb => ?_)
 ·refine AW.sr trivial ?_
  refine AW.ret ?_
  simp only [zs, simprocAttr]
  all_goals ((try and_intros) <;> first | rfl | assumption | (simp [putS, hb]))
 refine AW.skip ?_
 all_goals simp only [zs, simprocAttr]
 all_goals apply_assumption
 all_goals refine AW.sr trivial ?_
 refine AW.seq_j (fun s' σ' => σ' = Hp.empty ∧ s'.t 0 = .sl (l.map encS) ∧ s'.t 1 = .c (.string str) ∧ ∃ i : Nat, i ≤ l.length ∧ s'.t 5 = .c (.int .i64 (i : Nat)) ∧ l.takeWhile (ltS · str) = l.take i ∧ l.dropWhile (ltS · str) = l.drop i) ?_ ?_
 ·refine AW.block ?_   -- 0
  refine AW.loop (fun m s σ => σ = Hp.empty ∧ ∃ i : Nat, m + i = l.length ∧ s.t 0 = .sl (l.map encS) ∧ s.t 1 = .c (.string str) ∧ s.t 5 = .c (.int .i64 (i : Nat)) ∧ l.takeWhile (ltS · str) = l.take i ++ (l.drop i).takeWhile (ltS · str) ∧ l.dropWhile (ltS · str) = (l.drop i).dropWhile (ltS · str)) l.length ?_ ?_
  ·refine ⟨rfl, 0, by simp, ?_⟩
   simp only [zs, simprocAttr]
   all_goals ((try and_intros) <;> first | rfl | assumption | (simp))
  rintro m s σ ⟨rfl, i, hm, e0, e1, e5, hp, hq⟩
  refine AW.seq_k fun K6 h6 => ?_
  refine AW.seq_j (fun s' σ' => σ' = Hp.empty ∧ s'.t 0 = .sl (l.map encS) ∧ s'.t 1 = .c (.string str) ∧ s'.t 5 = .c (.int .i64 (i : Nat)) ∧ s'.t 22 = .c (.bool (decide (i < l.length) && (l[i]?.map (ltS · str)).getD false))) ?_ ?_
  ·by_cases hi : i < l.length
   ·obtain ⟨x, hx, hg, hd⟩ := str_get hi
    refine AW.reg0 ?_
    have q1q := J6 e0 e1 e5 hi hg @List.length_map.{0,0}
    iterate 3 refine S.one q1q ?_
    (refine S.sp q1q fun b a14 => ?_; cases b <;> (try exact nope a14))
    all_goals iterate 8 refine S.one q1q ?_
    all_goals refine S.nil ?_
    all_goals simp only [ze, simprocAttr, q1q]
    all_goals simp_all [ltS]
   ·have hx : l[i]? = none := List.getElem?_eq_none (by omega)
    refine AW.reg0 ?_
    have q2q := J5 e0 e1 e5 hi @List.length_map.{0,0}
    iterate 3 refine S.one q2q ?_
    (refine S.sp q2q fun b a14 => ?_; cases b <;> (try exact nope a14))
    all_goals iterate 8 refine S.one q2q ?_
    all_goals refine S.nil ?_
    all_goals simp only [ze, simprocAttr, q2q]
    all_goals simp_all
  rintro s σ ⟨rfl, e0, e1, e5, e22⟩
  refine AW.cond (b := decide (i < l.length) && (l[i]?.map (ltS · str)).getD false) e22 (fun hc => ?_) (fun hc => ?_)
  ·rw [Bool.and_eq_true, decide_eq_true_eq] at hc
   obtain ⟨hi, hc⟩ := hc
   obtain ⟨x, hx, hg, hd⟩ := str_get hi
   have hw := wadd1 (a := i) (by omega)
   rw [hx] at hc
   have hc : ltS x str = true := hc
   refine AW.skip ?_
   simp only [zs, simprocAttr]
   all_goals apply_assumption
   refine AW.block ?_   -- 1
   have q3q := J4 e5 hw e0 e1
   refine AW.reg0 (S.rn q3q ?_)
   simp only [ze, simprocAttr, q3q]
   refine ⟨m - 1, by omega, i + 1, by omega, ?_⟩
   rw [hd, List.takeWhile_cons_of_pos (p := (ltS · str)) hc, take_cons hx] at hp
   rw [hd, List.dropWhile_cons_of_pos (p := (ltS · str)) hc] at hq
   all_goals ((try and_intros) <;> first | rfl | assumption | (exact ⟨hp, hq⟩))
  ·refine AW.exit ?_
   simp only [zs, simprocAttr]
   refine ⟨e0, e1, i, by omega, e5, ?_⟩
   by_cases hi : i < l.length
   ·obtain ⟨x, hx, hg, hd⟩ := str_get hi
    rw [hx] at hc
    have hc : ltS x str = false := by simpa [hi] using hc
    rw [hd, List.takeWhile_cons_of_neg (p := (ltS · str)) (by rw [hc]; exact Bool.false_ne_true), List.append_nil] at hp
    rw [hd, List.dropWhile_cons_of_neg (p := (ltS · str)) (by rw [hc]; exact Bool.false_ne_true)] at hq
    exact ⟨hp, by rw [hq, hd]⟩
   ·rw [List.drop_of_length_le (by omega)] at hp hq
    rw [List.drop_of_length_le (by omega)]
    exact ⟨by simpa using hp, hq⟩
 rintro s σ ⟨rfl, e0, e1, i, hi, e5, h1, h2⟩
 all_goals refine AW.sr trivial ?_
 refine AW.seq_k fun K8 h8 => ?_
 have hT : (l.map encS).take i = (l.take i).map encS := List.map_take.symm
 have hD : (l.map encS).drop i = (l.drop i).map encS := List.map_drop.symm
 have hTl : (l.take i).length = i := by rw [List.length_take]; omega
 have hDl : (l.drop i).length = l.length - i := List.length_drop
 have z1 : (∀ (e : List V), e ∈ l.map encS → e.length = 1) = True := eq_true (len_str l)
 have z2 : (∀ (e : List V), e ∈ (l.take i).map encS → e.length = 1) = True := eq_true (len_str _)
 have z3 : (∀ (e : List V), e ∈ (l.drop i).map encS → e.length = 1) = True := eq_true (len_str _)
 have z4 : (∀ (e : List V), e ∈ [[V.c (.string str)]] → e.length = 1) = True := eq_true (len_str [str])
 have y1 : (i ≤ maxLen) = True := eq_true (by unfold maxLen; omega)
 have y2 : (i * 16 ≤ reach) = True := eq_true (by unfold reach; omega)
 have y3 : (i + 1 ≤ maxLen) = True := eq_true (by unfold maxLen; omega)
 have y4 : ((i + 1) * 16 ≤ reach) = True := eq_true (by unfold reach; omega)
 have y5 : (i + 1 + (l.length - i) ≤ maxLen) = True := eq_true (by unfold maxLen; omega)
 have y6 : ((i + 1 + (l.length - i)) * 16 ≤ reach) = True := eq_true (by unfold reach; omega)
 all_goals refine AW.reg0 ?_
 all_goals iterate 4 refine S.one (J12 e0 e1 e5 hi hT hD hTl hDl z1 z2 z3 (J12 z4 y1 y2 y3 y4 y5 y6 @List.length_map.{0,0} @Int.le_refl @Int.toNat_zero @Nat.sub_zero @List.drop_zero.{0})) ?_
 all_goals (refine S.g rfl rfl fun Y Z => ?_; simp only [zz, simprocAttr, -Int.reduceNatCast', -Int.reduceToNat, tt, e0, e1, e5, hi, hT, hD, hTl, hDl, z1, z2, z3, z4, y1, y2, y3, y4, y5, y6, List.length_map, Int.le_refl, Int.toNat_zero, Nat.sub_zero, List.drop_zero]; intro k1 hk1 <;> (refine Z _ _ ?_; clear Z Y))
 all_goals iterate 2 (refine S.g rfl rfl fun Y Z => ?_; simp only [zb, simprocAttr, -Int.reduceNatCast', -Int.reduceToNat, e0, e1, e5, hi, hT, hD, hTl, hDl, z1, z2, z3, z4, y1, y2, y3, y4, y5, y6, List.length_map, Int.le_refl, Int.toNat_zero, Nat.sub_zero, List.drop_zero, tt]; refine Z _ _ ?_; clear Z Y)
 all_goals have q4q := J12 e0 e1 e5 hi hT hD hTl hDl z1 z2 z3 (J12 z4 y1 y2 y3 y4 y5 y6 @List.length_map.{0,0} @Int.le_refl @Int.toNat_zero @Nat.sub_zero @List.drop_zero.{0})
 all_goals (refine S.g rfl rfl fun Y Z => ?_; simp only [zz, simprocAttr, -Int.reduceNatCast', -Int.reduceToNat, tt, q4q]; intro k2 hk2 <;> (refine Z _ _ ?_; clear Z Y))
 all_goals refine S.one q4q ?_
 all_goals (refine S.nil ?_; simp only [ze, simprocAttr, q4q]; apply_assumption)
 have hD2 : ((l.drop i).map encS).take (l.length - i) = (l.drop i).map encS := List.take_of_length_le (by rw [List.length_map, hDl]; omega)
 refine AW.seq_k fun K9 h9 => ?_
 all_goals refine AW.reg0 ?_
 all_goals iterate 4 refine S.one (J12 e0 e1 e5 hi hT hD hTl hDl hD2 z1 z2 (J10 z3 z4 y5 y6 @List.length_append.{0} @List.length_map.{0,0} @Int.le_refl @Int.toNat_zero @Nat.sub_zero @List.drop_zero.{0})) ?_
 all_goals have q5q := J12 e0 e1 e5 hi hT hD hTl hDl hD2 z1 z2 (J10 z3 z4 y5 y6 @List.length_append.{0} @List.length_map.{0,0} @Int.le_refl @Int.toNat_zero @Nat.sub_zero @List.drop_zero.{0})
 all_goals (refine S.g rfl rfl fun Y Z => ?_; simp only [zz, simprocAttr, -Int.reduceNatCast', -Int.reduceToNat, tt, q5q]; intro k3 hk3 <;> (refine Z _ _ ?_; clear Z Y))
 all_goals refine S.one q5q ?_
 all_goals (refine S.nil ?_; simp only [ze, simprocAttr, q5q]; apply_assumption)
 refine AW.freeze (k := k3) (T := (9, 1)) (es := (putS l str).map encS) (by simp only [Hp.setGr_gr, if_true, putS, hb, h1, h2]; simp [encS]) (AW.bare (AW.ret ?_))
 all_goals simp only [zs, simprocAttr, fzV, fz1, St.fz_t, St.fz_l]
def putAll (acc kv : List ByteArray) : List ByteArray := kv.foldl putS acc
theorem take_drop_while {p : ByteArray → Bool} (l : List ByteArray) : (l.takeWhile p).length + (l.dropWhile p).length = l.length := by
 rw [← List.length_append, List.takeWhile_append_dropWhile]
theorem putS_len (l : List ByteArray) (s : ByteArray) : (putS l s).length ≤ l.length + 1 := by
 unfold putS
 split
 ·omega
 ·have := take_drop_while (p := (ltS · s)) l
  rw [List.length_append, List.length_cons]; omega
theorem putAll_len (kv : List ByteArray) : ∀ acc : List ByteArray, (putAll acc kv).length ≤ acc.length + kv.length := by
 induction kv with
 | nil => intro acc; exact Nat.le_refl _
 | cons s kv ih => intro acc; have h1 := ih (putS acc s); have h2 := putS_len acc s; simp only [putAll, List.foldl_cons, List.length_cons] at *; omega
def varsOf (n : Nd) (l : List (List ByteArray)) : List ByteArray := l.foldl putAll (if n.var.size = 0 then [] else putS [] n.var)
def Nd.vars (n : Nd) : List ByteArray := n.para varsOf
theorem Nd.vars_eq (n : Nd) : n.vars = varsOf n (n.kids.map Nd.vars) := Nd.para_eq _ n
theorem foldAll_len (l : List (List ByteArray)) : ∀ acc : List ByteArray, (l.foldl putAll acc).length ≤ acc.length + (l.map List.length).sum := by
 induction l with
 | nil => intro acc; exact Nat.le_refl _
 | cons s l ih => intro acc; have h1 := ih (putAll acc s); have h2 := putAll_len s acc; simp only [List.foldl_cons, List.map_cons, List.sum_cons] at *; omega
def Nd.v0 (n : Nd) : List ByteArray := if n.var.size = 0 then [] else putS [] n.var
theorem Nd.v0_len (n : Nd) : n.v0.length ≤ 1 := by
 unfold Nd.v0
 split
 ·exact Nat.zero_le _
 ·have := putS_len [] n.var; simpa using this
theorem Nd.vars_size : ∀ n : Nd, n.vars.length ≤ n.size := Nd.ind fun n ih => by
 rw [Nd.vars_eq, Nd.size_eq]
 have h1 := foldAll_len (n.kids.map Nd.vars) n.v0
 have h2 := n.v0_len
 rw [List.map_map] at h1
 have h3 := sum_le (f := List.length ∘ Nd.vars) (g := Nd.size) (ks := n.kids) ih
 unfold varsOf
 unfold Nd.v0 at *
 omega
def Nd.vfst (n : Nd) (i : Nat) : List ByteArray := ((n.kids.take i).map Nd.vars).foldl putAll n.v0
theorem Nd.vfst_size (n : Nd) (i : Nat) {x : Nd} (hx : n.kids[i]? = some x) : (n.vfst i).length + x.vars.length ≤ n.size := by
 have h1 := foldAll_len ((n.kids.take i).map Nd.vars) n.v0
 have h2 := n.v0_len
 rw [List.map_map] at h1
 have h3 := sum_le (f := List.length ∘ Nd.vars) (g := Nd.size) (ks := n.kids.take i) (fun y _ => y.vars_size)
 have h4 := sum_step (l := n.kids.map Nd.size) (i := i) (x := x.size) (by rw [List.getElem?_map, hx]; rfl)
 have h5 := sum_take (n.kids.map Nd.size) (i + 1)
 have h6 := n.size_eq
 have h7 := x.vars_size
 simp only [← List.map_take] at h4 h5
 unfold Nd.vfst
 omega
theorem Nd.vfst_step (n : Nd) (i : Nat) {x : Nd} (hx : n.kids[i]? = some x) : n.vfst (i + 1) = putAll (n.vfst i) x.vars := by
 unfold Nd.vfst
 rw [List.map_take, List.map_take, fold_step (x := x.vars) (by rw [List.getElem?_map, hx]; rfl)]
theorem putAll_step {A kv : List ByteArray} {j : Nat} {s : ByteArray} (h : kv[j]? = some s) : putAll A (kv.take (j + 1)) = putS (putAll A (kv.take j)) s := fold_step h
def SlN (l : List ByteArray) (v : V) : Prop := v = .sl (l.map encS) ∨ (v = .c (.slice none 0 0) ∧ l = [])
theorem rVars_spec : ∀ n : Nd, n.small → PCalls Tryz.prog 83 [.agg (encNd n)] (fun v => v = .sl (n.vars.map encS)) := Nd.ind fun n ih hn => by
 have hl := hn.len
 have hn' : n.size ≤ 1048576 := hn
 rw [encNd_eq]
 refine PCalls.intro Tryz.call83 Tryz.func83 rfl Tryz.ntmps83 Tryz.results83 (by simp) ?_
 refine AW.sr trivial ?_
 refine AW.sr trivial ?_
 refine AW.seq_j (fun s' σ' => σ' = Hp.empty ∧ s'.t 1 = .lp 1 0 ∧ s'.l 1 = some [.c (.int .i64 n.kind), .c (.string n.var), .c (.string n.type), .sl (n.tests.map encC), .sl (n.kids.map encNd)] ∧ SlN (n.vfst 0) (s'.t 3)) ?_ ?_
 ·refine AW.sr trivial ?_
  refine AW.cond (b := !decide (n.var.size = 0)) (by simp [ev]) (fun hb => ?_) (fun hb => ?_)
  ·have hb : ¬ n.var.size = 0 := by simpa using hb
   have hnil : ([] : List ByteArray).length < 1048576 := by decide
   refine AW.reg0 ?_
   iterate 3 refine S.one trivial ?_
   (refine S.g rfl rfl fun Y Z => ?_; simp only [zz, simprocAttr, -Int.reduceNatCast', -Int.reduceToNat]; (first | refine PCalls.eqto (rput_spec _ _ (by omega)) ?_ | refine PCalls.eqto (rput_spec [] _ (by decide)) ?_) <;> (refine Z _ _ ?_; clear Z Y))
   all_goals refine S.one trivial ?_
   all_goals refine S.nil ?_
   all_goals simp only [ze, simprocAttr]
   all_goals ((try and_intros) <;> first | rfl | assumption | (exact .inl (by simp [Nd.vfst, Nd.v0, hb])))
  ·have hb : n.var.size = 0 := by simpa using hb
   refine AW.skip ?_
   simp only [zs, simprocAttr]
   all_goals ((try and_intros) <;> first | rfl | assumption | (exact .inr ⟨rfl, by simp [Nd.vfst, Nd.v0, hb]⟩))
 rintro s σ ⟨rfl, e1, l1, e3⟩
 refine AW.seq_k fun K4 h4 => ?_
 all_goals refine AW.sr (J2 e1 l1) ?_
 refine AW.block ?_   -- 0
 refine AW.loop (fun m s σ => σ = Hp.empty ∧ ∃ i : Nat, m + i = n.kids.length ∧ s.t 4 = .c (.int .i64 (i : Nat)) ∧ s.t 1 = .lp 1 0 ∧ s.l 1 = some [.c (.int .i64 n.kind), .c (.string n.var), .c (.string n.type), .sl (n.tests.map encC), .sl (n.kids.map encNd)] ∧ SlN (n.vfst i) (s.t 3)) n.kids.length ?_ ?_
 ·refine ⟨rfl, 0, by simp, ?_⟩
  simp only [zs, simprocAttr, e1, l1]
  all_goals ((try and_intros) <;> first | rfl | assumption | (exact e3))
 rintro m s σ ⟨rfl, i, hm, e4, e1, l1, e3⟩
 refine AW.seq_k fun K6 h6 => ?_
 all_goals refine AW.sr (J4 e4 e1 l1 @List.length_map.{0,0}) ?_
 refine AW.cond (b := decide (i < n.kids.length)) (by simp [ev]) (fun hi => ?_) (fun hi => ?_)
 ·have hi := of_decide_eq_true hi
  obtain ⟨x, hx, hxm, hg⟩ := kid_get hi
  have hw := wadd1 (a := i) (by omega)
  have hsz := n.vfst_size i hx
  refine AW.skip ?_
  simp only [zs, simprocAttr]
  all_goals apply_assumption
  refine AW.seq_k fun K8 h8 => ?_
  refine AW.block ?_   -- 1
  refine AW.seq_k fun K9 h9 => ?_
  refine AW.reg0 ?_
  iterate 5 refine S.one (J7 e4 e1 l1 hi hg @nd @List.length_map.{0,0}) ?_
  have q1q := J7 e4 e1 l1 hi hg @nd @List.length_map.{0,0}
  (refine S.g rfl rfl fun Y Z => ?_; simp only [zz, simprocAttr, -Int.reduceNatCast', -Int.reduceToNat, q1q]; refine PCalls.eqto (ih x hxm (hn.kid hxm)) ?_ <;> (refine Z _ _ ?_; clear Z Y))
  all_goals refine S.one q1q ?_
  all_goals (refine S.nil ?_; simp only [ze, simprocAttr, q1q]; apply_assumption)
  all_goals refine AW.sr trivial ?_
  refine AW.block ?_   -- 2
  refine AW.loop (fun m2 s σ => σ = Hp.empty ∧ ∃ j : Nat, m2 + j = x.vars.length ∧ s.t 6 = .c (.int .i64 (j : Nat)) ∧ s.t 5 = .sl (x.vars.map encS) ∧ s.t 4 = .c (.int .i64 (i : Nat)) ∧ s.t 1 = .lp 1 0 ∧ s.l 1 = some [.c (.int .i64 n.kind), .c (.string n.var), .c (.string n.type), .sl (n.tests.map encC), .sl (n.kids.map encNd)] ∧ SlN (putAll (n.vfst i) (x.vars.take j)) (s.t 3)) x.vars.length ?_ ?_
  ·refine ⟨rfl, 0, by simp, ?_⟩
   simp only [zs, simprocAttr, e1, l1, e4]
   all_goals ((try and_intros) <;> first | rfl | assumption | (exact e3))
  rintro m2 s σ ⟨rfl, j, hm2, e6, e5, e4, e1, l1, e3⟩
  refine AW.seq_k fun K11 h11 => ?_
  all_goals refine AW.sr (J3 e6 e5 @List.length_map.{0,0}) ?_
  refine AW.cond (b := decide (j < x.vars.length)) (by simp [ev]) (fun hj => ?_) (fun hj => ?_)
  ·have hj := of_decide_eq_true hj
   obtain ⟨y, hy, hgy, hdy⟩ := str_get hj
   have hw2 := wadd1 (a := j) (by omega)
   have hst := putAll_step (A := n.vfst i) hy
   have hpl := putAll_len (x.vars.take j) (n.vfst i)
   rw [List.length_take] at hpl
   refine AW.skip ?_
   simp only [zs, simprocAttr]
   all_goals apply_assumption
   refine AW.seq_k fun K13 h13 => ?_
   refine AW.block ?_   -- 3
   rcases e3 with e3 | ⟨e3, e3n⟩
   ·skip
    refine AW.reg0 ?_
    iterate 5 refine S.one (J6 e3 e5 e6 hj hgy @List.length_map.{0,0}) ?_
    have q2q := J6 e3 e5 e6 hj hgy @List.length_map.{0,0}
    (refine S.g rfl rfl fun Y Z => ?_; simp only [zz, simprocAttr, -Int.reduceNatCast', -Int.reduceToNat, q2q]; (first | refine PCalls.eqto (rput_spec _ _ (by omega)) ?_ | refine PCalls.eqto (rput_spec [] _ (by decide)) ?_) <;> (refine Z _ _ ?_; clear Z Y))
    all_goals refine S.one q2q ?_
    all_goals (refine S.nil ?_; simp only [ze, simprocAttr, q2q]; apply_assumption)
    all_goals have q3q := J6 e6 hw2 e5 e4 e1 l1
    all_goals refine AW.reg0 (S.rn q3q ?_)
    all_goals simp only [ze, simprocAttr, q3q]
    refine ⟨m2 - 1, by omega, j + 1, by omega, ?_⟩
    all_goals ((try and_intros) <;> first | rfl | assumption | (exact .inl (by rw [hst])))
   ·have hnil : ([] : List ByteArray).length < 1048576 := by decide
    refine AW.reg0 ?_
    iterate 5 refine S.one (J6 e3 e5 e6 hj hgy @List.length_map.{0,0}) ?_
    have q4q := J6 e3 e5 e6 hj hgy @List.length_map.{0,0}
    (refine S.g rfl rfl fun Y Z => ?_; simp only [zz, simprocAttr, -Int.reduceNatCast', -Int.reduceToNat, q4q]; (first | refine PCalls.eqto (rput_spec _ _ (by omega)) ?_ | refine PCalls.eqto (rput_spec [] _ (by decide)) ?_) <;> (refine Z _ _ ?_; clear Z Y))
    all_goals refine S.one q4q ?_
    all_goals (refine S.nil ?_; simp only [ze, simprocAttr, q4q]; apply_assumption)
    all_goals have q5q := J6 e6 hw2 e5 e4 e1 l1
    all_goals refine AW.reg0 (S.rn q5q ?_)
    all_goals simp only [ze, simprocAttr, q5q]
    refine ⟨m2 - 1, by omega, j + 1, by omega, ?_⟩
    all_goals ((try and_intros) <;> first | rfl | assumption | (exact .inl (by rw [hst, e3n])))
  ·have hj := of_decide_eq_false hj
   refine AW.exit ?_
   simp only [zs, simprocAttr]
   all_goals apply_assumption
   rw [List.take_of_length_le (by omega), ← n.vfst_step i hx] at e3
   have q6q := J4 e4 hw e1 l1
   refine AW.reg0 (S.rn q6q ?_)
   simp only [ze, simprocAttr, q6q]
   refine ⟨m - 1, by omega, i + 1, by omega, ?_⟩
   all_goals ((try and_intros) <;> first | rfl | assumption | (exact e3))
 ·have hi := of_decide_eq_false hi
  refine AW.exit ?_
  simp only [zs, simprocAttr]
  all_goals apply_assumption
  have hv : n.vfst i = n.vars := by rw [Nd.vfst, List.take_of_length_le (by omega), Nd.vars_eq]; rfl
  rw [hv] at e3
  rcases e3 with e3 | ⟨e3, e3n⟩
  ·refine AW.sr e3 ?_
   refine AW.ret ?_
   simp only [zs, simprocAttr]
   all_goals ((try and_intros) <;> first | rfl | assumption | (rfl))
  ·refine AW.sr e3 ?_
   refine AW.ret ?_
   simp only [zs, simprocAttr]
   all_goals ((try and_intros) <;> first | rfl | assumption | ((rw [e3n]; rfl)))
def meets (kv ov : List ByteArray) : Bool := ov.any (hasS kv)
def bindsFrom (k : Bool) : List (List ByteArray) → List (Int × List ByteArray) → Int
  | _, [] => 0
  | seen, (e, kv) :: r => if e = 0 then (if k && seen.any (meets kv) then 73 else bindsFrom k (seen ++ [kv]) r) else e
def twin (n : Nd) : Bool := decide (n.kind = 2 ∨ n.kind = 3)
def Nd.binds (n : Nd) : Int := n.para fun n l => bindsFrom (twin n) [] (l.zip (n.kids.map Nd.vars))
def bindOf (x : Nd) : Int × List ByteArray := (x.binds, x.vars)
theorem Nd.binds_eq (n : Nd) : n.binds = bindsFrom (twin n) [] (n.kids.map bindOf) := by
 rw [Nd.binds, Nd.para_eq]
 congr 1
 have : ∀ ks : List Nd, (ks.map (fun x => Nd.para (fun n l => bindsFrom (twin n) [] (l.zip (n.kids.map Nd.vars))) x)).zip (ks.map Nd.vars) = ks.map bindOf := fun ks => by
  induction ks with
  | nil => rfl
  | cons x xs ih => rw [List.map_cons, List.map_cons, List.zip_cons_cons, ih]; rfl
 exact this _
theorem kid_drop {n : Nd} {i : Nat} {x : Nd} (hx : n.kids[i]? = some x) : n.kids.drop i = x :: n.kids.drop (i + 1) := by
 obtain ⟨hi, h⟩ := List.getElem?_eq_some_iff.1 hx
 rw [List.drop_eq_getElem_cons hi, h]
theorem any_step {α : Type} {p : α → Bool} {l : List α} {i : Nat} {x : α} (h : l[i]? = some x) : (l.take (i + 1)).any p = ((l.take i).any p || p x) := by
 rw [List.take_add_one, h, List.any_append]; simp
theorem any_mem {α : Type} {p : α → Bool} {l : List α} {i : Nat} {x : α} (h : l[i]? = some x) (hp : p x = true) : l.any p = true :=
 List.any_eq_true.2 ⟨x, List.mem_of_getElem? h, hp⟩
theorem rBinds_spec : ∀ n : Nd, n.small → PCalls Tryz.prog 82 [.agg (encNd n)] (fun v => v = .c (.int .i64 n.binds)) := Nd.ind fun n ih hn => by
  have hl := hn.len
  rw [encNd_eq]
  refine PCalls.intro Tryz.call82 Tryz.func82 rfl Tryz.ntmps82 Tryz.results82 (by simp) ?_
  refine AW.sr trivial ?_
  refine AW.seq_k fun K2 h2 => ?_
  refine AW.sr trivial ?_
  refine AW.block ?_   -- 0
  refine AW.loop (fun m s σ => σ = Hp.empty ∧ ∃ i : Nat, m + i = n.kids.length ∧ s.t 3 = .c (.int .i64 (i : Nat)) ∧ s.t 1 = .lp 1 0 ∧ s.l 1 = some [.c (.int .i64 n.kind), .c (.string n.var), .c (.string n.type), .sl (n.tests.map encC), .sl (n.kids.map encNd)] ∧ n.binds = bindsFrom (twin n) ((n.kids.take i).map Nd.vars) ((n.kids.drop i).map bindOf)) n.kids.length ?_ ?_
  · refine ⟨rfl, 0, by simp, ?_⟩
    simp only [zs, simprocAttr]
    all_goals ((try and_intros) <;> first | rfl | assumption | (exact n.binds_eq))
  rintro m s σ ⟨rfl, i, hm, e3, e1, l1, hp⟩
  refine AW.seq_k fun K4 h4 => ?_
  all_goals refine AW.sr (J4 e3 e1 l1 @List.length_map.{0,0}) ?_
  refine AW.cond (b := decide (i < n.kids.length)) (by simp [ev]) (fun hi => ?_) (fun hi => ?_)
  · have hi := of_decide_eq_true hi
    obtain ⟨x, hx, hxm, hg⟩ := kid_get hi
    have hw := wadd1 (a := i) (by omega)
    have hxs := x.vars_size
    have hxn : x.size ≤ 1048576 := hn.kid hxm
    rw [kid_drop hx, List.map_cons, bindOf, bindsFrom] at hp
    refine AW.skip ?_
    simp only [zs, simprocAttr]
    all_goals apply_assumption
    refine AW.seq_k fun K6 h6 => ?_
    refine AW.block ?_   -- 1
    refine AW.seq_k fun K7 h7 => ?_
    refine AW.seq_k fun K8 h8 => ?_
    refine AW.reg0 ?_
    iterate 5 refine S.one (J7 e3 e1 l1 hi hg @nd @List.length_map.{0,0}) ?_
    have q1q := J7 e3 e1 l1 hi hg @nd @List.length_map.{0,0}
    (refine S.g rfl rfl fun Y Z => ?_; simp only [zz, simprocAttr, -Int.reduceNatCast', -Int.reduceToNat, q1q]; refine PCalls.eqto (ih x hxm (hn.kid hxm)) ?_ <;> (refine Z _ _ ?_; clear Z Y))
    all_goals refine S.one q1q ?_
    all_goals (refine S.nil ?_; simp only [ze, simprocAttr, q1q]; apply_assumption)
    all_goals refine AW.sr trivial ?_
    refine AW.cond (b := x.binds != 0) (by simp [ev]) (fun hb => ?_) (fun hb => ?_)
    · have hb : ¬ x.binds = 0 := by simpa using hb
      refine AW.sr trivial ?_
      refine AW.ret ?_
      simp only [zs, simprocAttr]
      all_goals ((try and_intros) <;> first | rfl | assumption | (rw [hp, if_neg hb]))
    have hb : x.binds = 0 := by simpa using hb
    rw [if_pos hb] at hp
    refine AW.skip ?_
    all_goals simp only [zs, simprocAttr]
    all_goals apply_assumption
    refine AW.seq_k fun K11 h11 => ?_
    all_goals refine AW.reg0 ?_
    all_goals iterate 5 refine S.one (J7 e3 e1 l1 hi hg @nd @List.length_map.{0,0}) ?_
    all_goals have q2q := J7 e3 e1 l1 hi hg @nd @List.length_map.{0,0}
    all_goals (refine S.g rfl rfl fun Y Z => ?_; simp only [zz, simprocAttr, -Int.reduceNatCast', -Int.reduceToNat, q2q]; (first | refine PCalls.eqto (rVars_spec x (hn.kid hxm)) ?_ | refine PCalls.eqto (rVars_spec y (hn.kid hym)) ?_) <;> (refine Z _ _ ?_; clear Z Y))
    all_goals refine S.one q2q ?_
    all_goals (refine S.nil ?_; simp only [ze, simprocAttr, q2q]; apply_assumption)
    all_goals refine AW.sr trivial ?_
    refine AW.block ?_   -- 2
    refine AW.loop (fun m2 s σ => σ = Hp.empty ∧ ∃ j : Nat, m2 + j = i ∧ s.t 6 = .c (.int .i64 (j : Nat)) ∧ s.t 5 = .sl (x.vars.map encS) ∧ s.t 3 = .c (.int .i64 (i : Nat)) ∧ s.t 1 = .lp 1 0 ∧ s.l 1 = some [.c (.int .i64 n.kind), .c (.string n.var), .c (.string n.type), .sl (n.tests.map encC), .sl (n.kids.map encNd)] ∧ (twin n && ((n.kids.take j).map Nd.vars).any (meets x.vars)) = false) i ?_ ?_
    · refine ⟨rfl, 0, by simp, ?_⟩
      simp only [zs, simprocAttr, e1, l1, e3]
      all_goals ((try and_intros) <;> first | rfl | assumption | (simp))
    rintro m2 s σ ⟨rfl, j, hm2, e6, e5, e3, e1, l1, hq⟩
    refine AW.seq_k fun K13 h13 => ?_
    refine AW.seq_j (fun s' σ' => σ' = Hp.empty ∧ s'.t 6 = .c (.int .i64 (j : Nat)) ∧ s'.t 5 = .sl (x.vars.map encS) ∧ s'.t 3 = .c (.int .i64 (i : Nat)) ∧ s'.t 1 = .lp 1 0 ∧ s'.l 1 = some [.c (.int .i64 n.kind), .c (.string n.var), .c (.string n.type), .sl (n.tests.map encC), .sl (n.kids.map encNd)] ∧ s'.t 43 = .c (.bool (decide (j < i) && twin n))) ?_ ?_
    · skip
      refine AW.reg0 ?_
      have q3q := J5 e6 e5 e3 e1 l1
      iterate 2 refine S.one q3q ?_
      (refine S.sp q3q fun b a33 => ?_; cases b <;> (try exact nope a33))
      all_goals iterate 3 refine S.one q3q ?_
      all_goals (first | (refine S.sp q3q fun b a37 => ?_; cases b <;> (try exact nope a37)) | ((first | refine S.x rfl rfl rfl rfl fun Y Z => ?_ | refine S.u rfl rfl rfl rfl fun Y Z => ?_); simp only [ze, simprocAttr, -Int.reduceNatCast', -Int.reduceToNat]; refine Z _ _ ?_; clear Z Y))
      all_goals iterate 6 refine S.one q3q ?_
      all_goals refine S.nil ?_
      all_goals simp only [ze, simprocAttr, q3q]
      all_goals simp_all [twin]
      all_goals first | (rw [Bool.eq_iff_iff]; simp; done) | (intro hh; exfalso; omega)
    rintro s σ ⟨rfl, e6, e5, e3, e1, l1, e43⟩
    refine AW.cond (b := decide (j < i) && twin n) e43 (fun hj => ?_) (fun hj => ?_)
    · rw [Bool.and_eq_true, decide_eq_true_eq] at hj
      obtain ⟨hj, htw⟩ := hj
      have hjl : j < n.kids.length := by omega
      obtain ⟨y, hy, hym, hgy⟩ := kid_get hjl
      have hys := y.vars_size
      have hyn : y.size ≤ 1048576 := hn.kid hym
      have hw2 := wadd1 (a := j) (by omega)
      have hyv : (n.kids.map Nd.vars)[j]? = some y.vars := by rw [List.getElem?_map, hy]; rfl
      rw [htw, Bool.true_and] at hq
      refine AW.skip ?_
      simp only [zs, simprocAttr]
      all_goals apply_assumption
      refine AW.seq_k fun K14 h14 => ?_
      refine AW.block ?_   -- 3
      refine AW.seq_k fun K15 h15 => ?_
      refine AW.reg0 ?_
      iterate 5 refine S.one (J7 e6 e1 l1 hjl hgy @nd @List.length_map.{0,0}) ?_
      have q4q := J7 e6 e1 l1 hjl hgy @nd @List.length_map.{0,0}
      (refine S.g rfl rfl fun Y Z => ?_; simp only [zz, simprocAttr, -Int.reduceNatCast', -Int.reduceToNat, q4q]; (first | refine PCalls.eqto (rVars_spec x (hn.kid hxm)) ?_ | refine PCalls.eqto (rVars_spec y (hn.kid hym)) ?_) <;> (refine Z _ _ ?_; clear Z Y))
      all_goals refine S.one q4q ?_
      all_goals (refine S.nil ?_; simp only [ze, simprocAttr, q4q]; apply_assumption)
      all_goals refine AW.sr trivial ?_
      refine AW.block ?_   -- 4
      refine AW.loop (fun m3 s σ => σ = Hp.empty ∧ ∃ k : Nat, m3 + k = y.vars.length ∧ s.t 8 = .c (.int .i64 (k : Nat)) ∧ s.t 7 = .sl (y.vars.map encS) ∧ s.t 6 = .c (.int .i64 (j : Nat)) ∧ s.t 5 = .sl (x.vars.map encS) ∧ s.t 3 = .c (.int .i64 (i : Nat)) ∧ s.t 1 = .lp 1 0 ∧ s.l 1 = some [.c (.int .i64 n.kind), .c (.string n.var), .c (.string n.type), .sl (n.tests.map encC), .sl (n.kids.map encNd)] ∧ (y.vars.take k).any (hasS x.vars) = false) y.vars.length ?_ ?_
      · refine ⟨rfl, 0, by simp, ?_⟩
        simp only [zs, simprocAttr, e1, l1, e3, e5, e6]
        all_goals ((try and_intros) <;> first | rfl | assumption | (rfl))
      rintro m3 s σ ⟨rfl, k, hm3, e8, e7, e6, e5, e3, e1, l1, hr⟩
      refine AW.seq_k fun K17 h17 => ?_
      all_goals refine AW.sr (J3 e8 e7 @List.length_map.{0,0}) ?_
      refine AW.cond (b := decide (k < y.vars.length)) (by simp [ev]) (fun hk => ?_) (fun hk => ?_)
      · have hk := of_decide_eq_true hk
        obtain ⟨z, hz, hgz, hdz⟩ := str_get hk
        have hw3 := wadd1 (a := k) (by omega)
        have hst := any_step (p := hasS x.vars) hz
        refine AW.skip ?_
        simp only [zs, simprocAttr]
        all_goals apply_assumption
        refine AW.seq_k fun K19 h19 => ?_
        refine AW.block ?_   -- 5
        refine AW.seq_k fun K20 h20 => ?_
        refine AW.reg0 ?_
        iterate 5 refine S.one (J6 e5 e7 e8 hk hgz @List.length_map.{0,0}) ?_
        have q5q := J6 e5 e7 e8 hk hgz @List.length_map.{0,0}
        (refine S.g rfl rfl fun Y Z => ?_; simp only [zz, simprocAttr, -Int.reduceNatCast', -Int.reduceToNat, q5q]; refine PCalls.eqto (rhasS_spec _ _ (by omega)) ?_ <;> (refine Z _ _ ?_; clear Z Y))
        all_goals (refine S.nil ?_; simp only [ze, simprocAttr, q5q]; apply_assumption)
        refine AW.cond (b := hasS x.vars z) (by simp [ev]) (fun hc => ?_) (fun hc => ?_)
        · refine AW.sr trivial ?_
          refine AW.ret ?_
          simp only [zs, simprocAttr]
          have hmt : meets x.vars y.vars = true := any_mem hz hc
          have hin : ((n.kids.take i).map Nd.vars)[j]? = some y.vars := by rw [List.map_take, List.getElem?_take_of_lt hj, hyv]
          have han : ((n.kids.take i).map Nd.vars).any (meets x.vars) = true := any_mem hin hmt
          all_goals ((try and_intros) <;> first | rfl | assumption | (rw [hp, htw, han]; rfl))
        · refine AW.skip ?_
          simp only [zs, simprocAttr]
          all_goals apply_assumption
          have q6q := J8 e8 hw3 e7 e6 e5 e3 e1 l1
          refine AW.reg0 (S.rn q6q ?_)
          simp only [ze, simprocAttr, q6q]
          refine ⟨m3 - 1, by omega, k + 1, by omega, ?_⟩
          all_goals ((try and_intros) <;> first | rfl | assumption | (rw [hst, hr, hc]; rfl))
      · have hk := of_decide_eq_false hk
        refine AW.exit ?_
        simp only [zs, simprocAttr]
        all_goals apply_assumption
        rw [List.take_of_length_le (by omega)] at hr
        have hst := any_step (p := meets x.vars) hyv
        have q7q := J6 e6 hw2 e5 e3 e1 l1
        refine AW.reg0 (S.rn q7q ?_)
        simp only [ze, simprocAttr, q7q]
        refine ⟨m2 - 1, by omega, j + 1, by omega, ?_⟩
        rw [← List.map_take, ← List.map_take, hq] at hst
        all_goals ((try and_intros) <;> first | rfl | assumption | ((rw [htw, hst]; exact hr)))
    · refine AW.exit ?_
      simp only [zs, simprocAttr]
      all_goals apply_assumption
      have hov : (twin n && ((n.kids.take i).map Nd.vars).any (meets x.vars)) = false := by
        cases ht : twin n with
        | false => rfl
        | true =>
          rw [ht] at hq hj
          have : ¬ j < i := by simpa using hj
          have : j = i := by omega
          rw [this] at hq; exact hq
      rw [hov, if_neg Bool.false_ne_true] at hp
      have htk : (n.kids.take (i + 1)).map Nd.vars = (n.kids.take i).map Nd.vars ++ [x.vars] := by rw [List.take_add_one, hx, List.map_append]; rfl
      have q8q := J4 e3 hw e1 l1
      refine AW.reg0 (S.rn q8q ?_)
      simp only [ze, simprocAttr, q8q]
      refine ⟨m - 1, by omega, i + 1, by omega, ?_⟩
      all_goals ((try and_intros) <;> first | rfl | assumption | ((rw [htk]; exact hp)))
  · have hi := of_decide_eq_false hi
    refine AW.exit ?_
    simp only [zs, simprocAttr]
    all_goals apply_assumption
    rw [List.drop_of_length_le (l := n.kids) (by omega)] at hp
    have hp : n.binds = 0 := hp
    refine AW.sr trivial ?_
    refine AW.ret ?_
    simp only [zs, simprocAttr]
    all_goals ((try and_intros) <;> first | rfl | assumption | (rw [hp]))
structure Pat where
  name : ByteArray
  within : Int
  node : Nd
  conds : List Cnd
def encPat (p : Pat) : List V := [.c (.string p.name), .c (.int .i64 p.within), .c (.int .i64 p.node.kind), .c (.string p.node.var), .c (.string p.node.type), .sl (p.node.tests.map encC), .sl (p.node.kids.map encNd), .sl (p.conds.map encC)]
structure okPat (p : Pat) : Prop where
  name : p.name.size < 4611686018427387904
  small : p.node.small
  ok : p.node.ok
  len : p.conds.length < 4611686018427387904
  conds : ∀ c ∈ p.conds, okC c
def patOwn (p : Pat) : Bool := !isName p.name || decide (p.within < 1) || decide (p.within > 1099511627776)
def patErr (p : Pat) : Int := if patOwn p then 70 else if p.node.shape = 0 then (if p.node.binds = 0 then cndsErr p.node.vars p.conds else p.node.binds) else p.node.shape
theorem rPattern_spec (p : Pat) (hp : okPat p) : PCalls Tryz.prog 39 [.agg (encPat p)] (fun v => v = .c (.int .i64 (patErr p))) := by
 have hE := (encNd_eq p.node).symm
 have hsz := p.node.vars_size
 have hsm : p.node.size ≤ 1048576 := hp.small
 refine PCalls.intro Tryz.call39 Tryz.func39 rfl Tryz.ntmps39 Tryz.results39 (by simp) ?_
 refine AW.sr @encPat.eq_1 ?_
 refine AW.seq_k fun K2 h2 => ?_
 refine AW.seq_j (fun s' σ' => σ' = Hp.empty ∧ s'.t 1 = .lp 1 0 ∧ s'.l 1 = some (encPat p) ∧ s'.t 21 = .c (.bool (patOwn p))) ?_ ?_
 ·skip
  refine AW.reg0 ?_
  iterate 2 refine S.one trivial ?_
  (refine S.g rfl rfl fun Y Z => ?_; simp only [zz, simprocAttr, -Int.reduceNatCast', -Int.reduceToNat]; refine PCalls.eqto (rname_spec _ hp.name) ?_; refine S.bool fun b a10 => ?_; cases b <;> (try exact nope a10) <;> (refine Z _ _ ?_; clear Z Y))
  all_goals iterate 4 refine S.one trivial ?_
  all_goals (first | (refine S.sp trivial fun b a15 => ?_; cases b <;> (try exact nope a15)) | ((first | refine S.x rfl rfl rfl rfl fun Y Z => ?_ | refine S.u rfl rfl rfl rfl fun Y Z => ?_); simp only [ze, simprocAttr, -Int.reduceNatCast', -Int.reduceToNat]; refine Z _ _ ?_; clear Z Y))
  all_goals iterate 6 refine S.one trivial ?_
  all_goals refine S.nil ?_
  all_goals simp only [ze, simprocAttr]
  all_goals simp_all [patOwn, encPat]
  all_goals omega
 rintro s σ ⟨rfl, e1, l1, e21⟩
 refine AW.cond (b := patOwn p) e21 (fun hb => ?_) (fun hb => ?_)
 ·refine AW.sr trivial ?_
  refine AW.ret ?_
  simp only [zs, simprocAttr]
  all_goals ((try and_intros) <;> first | rfl | assumption | (rw [patErr, if_pos hb]))
 have hs : patErr p = if p.node.shape = 0 then (if p.node.binds = 0 then cndsErr p.node.vars p.conds else p.node.binds) else p.node.shape := by rw [patErr, if_neg (by rw [hb]; exact Bool.false_ne_true)]
 refine AW.skip ?_
 all_goals simp only [zs, simprocAttr]
 all_goals apply_assumption
 refine AW.seq_k fun K4 h4 => ?_
 refine AW.seq_k fun K5 h5 => ?_
 all_goals refine AW.reg0 ?_
 all_goals iterate 2 refine S.one (J5 e1 l1 @encPat.eq_1 hE @nd) ?_
 all_goals have q1q := J5 e1 l1 @encPat.eq_1 hE @nd
 all_goals (refine S.g rfl rfl fun Y Z => ?_; simp only [zz, simprocAttr, -Int.reduceNatCast', -Int.reduceToNat, q1q]; refine PCalls.eqto (rShape_spec _ hp.small hp.ok) ?_ <;> (refine Z _ _ ?_; clear Z Y))
 all_goals refine S.one q1q ?_
 all_goals (refine S.nil ?_; simp only [ze, simprocAttr, q1q]; apply_assumption)
 all_goals refine AW.sr trivial ?_
 refine AW.cond (b := p.node.shape != 0) (by simp [ev]) (fun hc => ?_) (fun hc => ?_)
 ·refine AW.sr trivial ?_
  refine AW.ret ?_
  simp only [zs, simprocAttr]
  all_goals ((try and_intros) <;> first | rfl | assumption | ((rw [hs, if_neg (by simpa using hc)])))
 have hc : p.node.shape = 0 := by simpa using hc
 rw [if_pos hc] at hs
 refine AW.skip ?_
 all_goals simp only [zs, simprocAttr]
 all_goals apply_assumption
 refine AW.seq_k fun K8 h8 => ?_
 refine AW.seq_k fun K9 h9 => ?_
 all_goals refine AW.reg0 ?_
 all_goals iterate 2 refine S.one (J5 e1 l1 @encPat.eq_1 hE @nd) ?_
 all_goals have q2q := J5 e1 l1 @encPat.eq_1 hE @nd
 all_goals (refine S.g rfl rfl fun Y Z => ?_; simp only [zz, simprocAttr, -Int.reduceNatCast', -Int.reduceToNat, q2q]; refine PCalls.eqto (rBinds_spec _ hp.small) ?_ <;> (refine Z _ _ ?_; clear Z Y))
 all_goals refine S.one q2q ?_
 all_goals (refine S.nil ?_; simp only [ze, simprocAttr, q2q]; apply_assumption)
 all_goals refine AW.sr trivial ?_
 refine AW.cond (b := p.node.binds != 0) (by simp [ev]) (fun hc => ?_) (fun hc => ?_)
 ·refine AW.sr trivial ?_
  refine AW.ret ?_
  simp only [zs, simprocAttr]
  all_goals ((try and_intros) <;> first | rfl | assumption | ((rw [hs, if_neg (by simpa using hc)])))
 have hc : p.node.binds = 0 := by simpa using hc
 rw [if_pos hc] at hs
 refine AW.skip ?_
 all_goals simp only [zs, simprocAttr]
 all_goals apply_assumption
 refine AW.seq_k fun K12 h12 => ?_
 all_goals refine AW.sr (J4 e1 l1 @encPat.eq_1 @List.length_map.{0,0}) ?_
 refine AW.cond (b := decide ((p.conds.length : Int) > 16)) (by simp [ev]) (fun hc => ?_) (fun hc => ?_)
 ·have hc : 16 < p.conds.length := by have := of_decide_eq_true hc; omega
  refine AW.sr trivial ?_
  refine AW.ret ?_
  simp only [zs, simprocAttr]
  all_goals ((try and_intros) <;> first | rfl | assumption | ((rw [hs]; simp [cndsErr, hc])))
 have hc16 : ¬ 16 < p.conds.length := by have := of_decide_eq_false hc; omega
 refine AW.skip ?_
 all_goals simp only [zs, simprocAttr]
 all_goals apply_assumption
 refine AW.seq_k fun K15 h15 => ?_
 all_goals refine AW.reg0 ?_
 all_goals iterate 2 refine S.one (J5 e1 l1 @encPat.eq_1 hE @nd) ?_
 all_goals have q3q := J5 e1 l1 @encPat.eq_1 hE @nd
 all_goals (refine S.g rfl rfl fun Y Z => ?_; simp only [zz, simprocAttr, -Int.reduceNatCast', -Int.reduceToNat, q3q]; refine PCalls.eqto (rVars_spec _ hp.small) ?_ <;> (refine Z _ _ ?_; clear Z Y))
 all_goals refine S.one q3q ?_
 all_goals (refine S.nil ?_; simp only [ze, simprocAttr, q3q]; apply_assumption)
 refine AW.seq_k fun K16 h16 => ?_
 all_goals refine AW.sr (J2 e1 l1) ?_
 refine AW.block ?_   -- 0
 refine AW.loop (fun m s σ => σ = Hp.empty ∧ ∃ i : Nat, m + i = p.conds.length ∧ s.t 6 = .c (.int .i64 (i : Nat)) ∧ s.t 5 = .sl (p.node.vars.map encS) ∧ s.t 1 = .lp 1 0 ∧ s.l 1 = some (encPat p) ∧ cndsBad p.node.vars p.conds = cndsBad p.node.vars (p.conds.drop i)) p.conds.length ?_ ?_
 ·refine ⟨rfl, 0, by simp, ?_⟩
  simp only [zs, simprocAttr, e1, l1]
  all_goals ((try and_intros) <;> first | rfl | assumption | (rfl))
 rintro m s σ ⟨rfl, i, hm, e6, e5, e1, l1, hq⟩
 refine AW.seq_k fun K18 h18 => ?_
 all_goals refine AW.sr (J5 e6 e1 l1 @encPat.eq_1 @List.length_map.{0,0}) ?_
 refine AW.cond (b := decide (i < p.conds.length)) (by simp [ev]) (fun hi => ?_) (fun hi => ?_)
 ·have hi := of_decide_eq_true hi
  obtain ⟨c, hx, hcm, hg, hd⟩ := cnd_get hi
  have hw := wadd1 (a := i) (by omega)
  rw [hd, cndsBad_cons] at hq
  refine AW.skip ?_
  simp only [zs, simprocAttr]
  all_goals apply_assumption
  refine AW.seq_k fun K20 h20 => ?_
  refine AW.block ?_   -- 1
  refine AW.seq_k fun K21 h21 => ?_
  refine AW.reg0 ?_
  iterate 6 refine S.one (J9 e6 e5 e1 l1 hi hg @cd @encPat.eq_1 @List.length_map.{0,0}) ?_
  have q4q := J9 e6 e5 e1 l1 hi hg @cd @encPat.eq_1 @List.length_map.{0,0}
  (refine S.g rfl rfl fun Y Z => ?_; simp only [zz, simprocAttr, -Int.reduceNatCast', -Int.reduceToNat, q4q]; refine PCalls.eqto (rCond_spec c p.node.vars (hp.conds c hcm) (by omega)) ?_ <;> (refine Z _ _ ?_; clear Z Y))
  all_goals refine S.one q4q ?_
  all_goals (refine S.nil ?_; simp only [ze, simprocAttr, q4q]; apply_assumption)
  all_goals refine AW.sr trivial ?_
  refine AW.cond (b := cndBad p.node.vars c) (by cases h : cndBad p.node.vars c <;> simp [ev]) (fun hb2 => ?_) (fun hb2 => ?_)
  ·refine AW.sr trivial ?_
   refine AW.ret ?_
   simp only [zs, simprocAttr]
   all_goals ((try and_intros) <;> first | rfl | assumption | ((rw [hs]; simp [cndsErr, hq, hb2])))
  ·refine AW.skip ?_
   simp only [zs, simprocAttr]
   all_goals apply_assumption
   rw [hb2, Bool.false_or] at hq
   have q5q := J5 e6 hw e5 e1 l1
   refine AW.reg0 (S.rn q5q ?_)
   simp only [ze, simprocAttr, q5q]
   refine ⟨m - 1, by omega, i + 1, by omega, ?_⟩
   all_goals ((try and_intros) <;> first | rfl | assumption | (exact hq))
 ·have hi := of_decide_eq_false hi
  refine AW.exit ?_
  simp only [zs, simprocAttr]
  all_goals apply_assumption
  rw [List.drop_of_length_le (by omega)] at hq
  have hq : cndsBad p.node.vars p.conds = false := hq
  refine AW.sr trivial ?_
  refine AW.ret ?_
  simp only [zs, simprocAttr]
  all_goals ((try and_intros) <;> first | rfl | assumption | ((rw [hs]; simp [cndsErr, hq, hc16])))
end Go.Abs.M
namespace Go.Abs
open Go
section
variable {P : Program} {n : Nat} {s : St} {σ : Hp}
variable [Mode]
def Cx.im (I : Nat → Prop) : Cx := ⟨I, fun _ => undef, fun _ => 0, 0, fun _ => 0⟩
structure Newer (W W' : World) : Prop where
  os : W'.os = W.os
  tape : W'.tape = W.tape
  output : W'.output = W.output ∧ (Mode.dm → W.drawn ≤ W'.drawn)
  size : W.heap.size ≤ W'.heap.size
  block : ∀ g, g < W.heap.size → W'.heap[g]? = W.heap[g]?
theorem Newer.refl (W : World) : Newer W W := ⟨rfl, rfl, ⟨rfl, fun _ => Nat.le_refl _⟩, Nat.le_refl _, fun _ _ => rfl⟩
def Base.it (cx : Cx) (w : World) : Base := { cx := cx, F := fun _ => False, w := w, g := fun _ => False, o := fun _ => False, nd := true }
end
end Go.Abs
namespace Go.Abs
open Go Go.RowKit
section
variable {P : Program} {n : Nat} {s s' : St} {σ σ' : Hp} {B : Base} {cx cx' : Cx} {a a' : Act} {w w' : World}
variable [Mode]
theorem foot_none {g : Nat} {l : Nat → Option (List V)} (h : foot cx σ (fun _ => none) g) : foot cx σ l g := by
 rcases h with h | ⟨d, c, hd, _⟩
 ·exact .inl h
 ·cases hd
structure Free (B : Base) (cx : Cx) (σ : Hp) (l : Nat → Option (List V)) (w : World) (r : Nat) (o : Obj) : Prop where
  at' : w.heap[r]? = some o
  new : B.w.heap.size ≤ r
  foot : ¬ foot cx σ l r
  imm : ¬ cx.I r
theorem Free.keep {l l' : Nat → Option (List V)} {r : Nat} {o : Obj} (h : Free B cx σ l w r o) (hx : Ext cx (Abs.foot cx σ l) w cx' (Abs.foot cx' σ' l') w') : Free B cx' σ' l' w' r o :=
 have hlt := lt_of_block h.at'
 ⟨(hx.block r hlt h.foot).trans h.at', h.new, fun hf => (hx.fnew r hf).elim h.foot (fun hs => by omega), fun hi => (hx.inew r hi).elim h.imm (fun h6 => h6.elim h.foot (fun hs => by omega))⟩
theorem Free.bare {l : Nat → Option (List V)} {r : Nat} {o : Obj} (h : Free B cx σ l w r o) : Free B cx σ (fun _ => none) w r o := ⟨h.at', h.new, fun hf => h.foot (foot_none hf), h.imm⟩
theorem Free.put {l : Nat → Option (List V)} {r q : Nat} {o o' : Obj} (h : Free B cx σ l w r o) (hne : r ≠ q) : Free B cx σ l (w.putObj q o') r o := ⟨(World.putObj_heap_other hne).trans h.at', h.new, h.foot, h.imm⟩
theorem Free.set {l : Nat → Option (List V)} {r : Nat} {o : Obj} (o' : Obj) (h : Free B cx σ l w r o) : Free B cx σ l (w.putObj r o') r o' := ⟨World.putObj_heap_same (lt_of_block h.at'), h.new, h.foot, h.imm⟩
variable {T : Tab} {Q : Exit → St → Hp → Prop}
end
end Go.Abs
namespace Go.Abs
open Go
section
variable {P : Program}
variable [Mode]
theorem ACalls.bare {f : FuncId} {args : List V} {R : V → Hp → Prop} {R' : V → Prop} (h : ACalls P f args Hp.empty R) (hr : ∀ v σ', R v σ' → R' v) : PCalls P f args R' :=
 ⟨h.1, fun cx w xs hH ha => (h.2 cx w xs hH ha).mono fun e w' ⟨v, r, cx', σ', h1, h2, h3, h4⟩ =>
  ⟨v, r, cx', Hp.empty, h1, h2, ⟨h3.heap.sub (fun _ _ h => by cases h) (fun _ _ h => by cases h), ⟨h3.ext.os, h3.ext.tape, h3.ext.output, h3.ext.size, h3.ext.block, h3.ext.le, h3.ext.inew, fun g hg => (own_empty hg).elim⟩, fun k x hk => (by cases hk), fun g x hx => (by cases hx)⟩, rfl, hr v σ' h4⟩⟩
end
end Go.Abs
namespace Go.Abs
open Go
section
variable {P : Program} {σ : Hp}
variable [Mode]
theorem ACalls.keepH {f : FuncId} {args : List V} {R R' : V → Hp → Prop} (h : ACalls P f args σ R)
  (hr : ∀ v σ', R v σ' → (∀ g c, σ.obj g = some c → σ'.obj g = some c) ∧ (∀ k x, σ.gr k = some x → σ'.gr k = some x) ∧ R' v σ) : ACalls P f args σ R' :=
 ⟨h.1, fun cx w xs hH ha => (h.2 cx w xs hH ha).mono fun e w' ⟨v, r, cx', σ', h1, h2, h3, h4⟩ => by
  obtain ⟨ho, hg, hR⟩ := hr v σ' h4
  exact ⟨v, r, cx', σ, h1, h2, ⟨h3.heap.sub ho hg, ⟨h3.ext.os, h3.ext.tape, h3.ext.output, h3.ext.size, h3.ext.block, h3.ext.le, h3.ext.inew, fun g hg' => h3.ext.fnew g (own_sub ho hg hg')⟩, fun k x hk => .inl ⟨x, hk⟩, fun g x hx => .inl ⟨x, hx⟩⟩, hR⟩⟩
end
end Go.Abs
namespace Go.Abs
open Go
section
variable {P : Program} {σ : Hp} {cx : Cx} {w : World}
variable [Mode]
def thaw (σ : Hp) : Nat → V → V
  | 0, v => v
  | n + 1, .gl k => match σ.gr k with
    | some (_, es) => .sl (es.map fun e => e.map (thaw σ n))
    | none => .gl k
  | n + 1, .agg vs => .agg (vs.map (thaw σ n))
  | n + 1, .tup vs => .tup (vs.map (thaw σ n))
  | n + 1, .fn f us vs => .fn f (us.map (thaw σ n)) (vs.map (thaw σ n))
  | _ + 1, v => v
def Cx.lent (cx : Cx) (σ : Hp) : Cx := { cx with I := fun g => cx.I g ∨ σ.own cx g }
theorem Cx.le_lent : cx.le (cx.lent σ) := ⟨fun _ h => .inl h, Nat.le_refl _, fun _ _ => rfl, fun _ _ => rfl⟩
theorem HR.lent (h : HR cx σ w) : HR (cx.lent σ) Hp.empty w where
 obj g c hc := by cases hc
 gr k T es hk := by cases hk
 two k k' x x' g hk := by cases hk
 mix k x g c hk := by cases hk
 apart g hg := (own_empty hg).elim
 ilt g hg := hg.elim (h.ilt g) h.own_lt
theorem map_get {α β : Type} {f : α → β} {l : List α} {i : Nat} {y : β} (h : (l.map f)[i]? = some y) : ∃ x, l[i]? = some x ∧ f x = y := by
 simpa [Option.map_eq_some_iff] using h
theorem thaw_VR (h : HR cx σ w) : ∀ (n : Nat) (v : V) (x : Value), VR w cx v x → VR w (cx.lent σ) (thaw σ n v) x
  | 0, v, x, hv => hv.keep (fun _ _ => rfl) Cx.le_lent
  | n + 1, v, x, hv => by
    have base : ∀ {u : V} {y : Value}, VR w cx u y → VR w (cx.lent σ) u y := fun hu => hu.keep (fun _ _ => rfl) Cx.le_lent
    cases hv with
    | c x => exact .c x
    | nils => exact .nils
    | nile a => exact .nile a
    | sl f hI hcap hlen hc hr h1 => exact base (.sl f hI hcap hlen hc hr h1)
    | ip f hI hi hlen hc hr h1 => exact base (.ip f hI hi hlen hc hr h1)
    | gp hk hg => exact base (.gp hk hg)
    | gv hk hg hn => exact base (.gv hk hg hn)
    | agg h1 hn hh =>
      refine .agg h1 (by simpa using hn) fun i v x hv hx => ?_
      obtain ⟨u, hu, rfl⟩ := map_get hv
      exact thaw_VR h n _ _ (hh i u x hu hx)
    | tup hn hh =>
      refine .tup (by simpa using hn) fun i v x hv hx => ?_
      obtain ⟨u, hu, rfl⟩ := map_get hv
      exact thaw_VR h n _ _ (hh i u x hu hx)
    | fn hn hh hm hg =>
      refine .fn (by simpa using hn) (fun i v x hv hx => ?_) (by simpa using hm) fun i v x hv hx => ?_
      · obtain ⟨u, hu, rfl⟩ := map_get hv
        exact thaw_VR h n _ _ (hh i u x hu hx)
      · obtain ⟨u, hu, rfl⟩ := map_get hv
        exact thaw_VR h n _ _ (hg i u x hu hx)
    | @gl k hk hs =>
      simp only [thaw]
      split
      · rename_i T es hg
        obtain ⟨hkn, hZ, hel, xs, hown, hxs⟩ := h.gr k T es hg
        rcases hown.2 with ⟨hM, h0⟩ | ⟨g, cap, cur, hM, _, hbl, hcap, _, hcs, htk⟩
        · have : es = [] := List.eq_nil_of_length_eq_zero h0
          subst this
          rw [hM]; exact .nils
        · have hg' : (cx.M k).ownBlock = some g := by rw [hM]; rfl
          rw [hM]
          have hcap' : (es.map fun e => e.map (thaw σ n)).length ≤ cap := by simpa using hcap
          have hr : VRs w (cx.lent σ) (es.map fun e => e.map (thaw σ n)).flatten xs := by
            have hfl : (es.map fun e => e.map (thaw σ n)).flatten = es.flatten.map (thaw σ n) := by simp [List.map_flatten]
            rw [hfl]
            refine ⟨by rw [List.length_map]; exact hxs.1, hxs.2.1, fun i v x hv hx => ?_⟩
            obtain ⟨u, hu, rfl⟩ := map_get hv
            exact thaw_VR h n _ _ (hxs.2.2 i u x hu hx)
          have := VR.sl_of_row (w := w) (cx := cx.lent σ) (es := es.map fun e => e.map (thaw σ n)) (sz := cx.Z k) (b := g) (o := 0) (cap := cap) (.inr (.inr ⟨k, _, hg, hg'⟩)) hcap' (fun e he => by
            obtain ⟨e', he', rfl⟩ := List.mem_map.1 he
            simpa using hel e' he') hr (fun j x hj => by
            rw [cell_of_row w g (0 + j) cur _ _ hbl, Nat.zero_add]
            have hj' : xs[j]? = (cur.toList.take (es.length * cx.Z k))[j]? := by rw [htk]
            rw [hj'] at hj
            rw [List.getElem?_take] at hj
            split at hj
            · simpa using hj
            · cases hj)
          simpa using this
      · exact base (.gl hk hs)
end
end Go.Abs
namespace Go.Abs
open Go
section
variable {P : Program} {σ σ0 σ1 : Hp} {cx cx' : Cx} {w w' : World}
variable [Mode]
structure Hp.Le (σ0 σ : Hp) : Prop where
  obj : ∀ g c, σ0.obj g = some c → σ.obj g = some c
  gr : ∀ k x, σ0.gr k = some x → σ.gr k = some x
theorem Hp.Le.refl (σ : Hp) : Hp.Le σ σ := ⟨fun _ _ h => h, fun _ _ h => h⟩
theorem Hp.Le.empty (σ : Hp) : Hp.Le Hp.empty σ := ⟨fun _ _ h => (by cases h), fun _ _ h => (by cases h)⟩
theorem Hp.Le.own {g : Nat} (h : Hp.Le σ0 σ) (hg : σ0.own cx g) : σ.own cx g := own_sub h.obj h.gr hg
theorem over_obj {g : Nat} {c : List V} (h : (σ1.over σ σ0).obj g = some c) : σ1.obj g = some c ∨ (σ1.obj g = none ∧ σ0.obj g = none ∧ σ.obj g = some c) := by
 simp only [Hp.over] at h
 split at h
 ·exact .inl (by rename_i e; rw [e, h])
 ·rename_i e
  split at h
  ·cases h
  ·exact .inr ⟨e, ‹_›, h⟩
theorem over_gr {k : Nat} {x : (TypeId × Nat) × List (List V)} (h : (σ1.over σ σ0).gr k = some x) : σ1.gr k = some x ∨ (σ1.gr k = none ∧ σ0.gr k = none ∧ σ.gr k = some x) := by
 simp only [Hp.over] at h
 split at h
 ·exact .inl (by rename_i e; rw [e, h])
 ·rename_i e
  split at h
  ·cases h
  ·exact .inr ⟨e, ‹_›, h⟩
theorem HR.beside_gr (hH : HR cx σ w) (hs : Hp.Le σ0 σ) {k g : Nat} {x : (TypeId × Nat) × List (List V)} (h0 : σ0.gr k = none) (hk : σ.gr k = some x) (hg : (cx.M k).ownBlock = some g) : ¬ σ0.own cx g := by
 rintro (⟨c, hc⟩ | ⟨j, y, hj, hb⟩)
 ·exact hH.mix k x g c hk (hs.obj g c hc) hg
 ·have := hH.two k j x y g hk (hs.gr j y hj) hg hb
  subst this
  rw [h0] at hj; cases hj
theorem HR.beside_obj (hH : HR cx σ w) (hs : Hp.Le σ0 σ) {g : Nat} {c : List V} (h0 : σ0.obj g = none) (hg : σ.obj g = some c) : ¬ σ0.own cx g := by
 rintro (⟨c', hc⟩ | ⟨j, y, hj, hb⟩)
 ·rw [h0] at hc; cases hc
 ·exact hH.mix j y g c (hs.gr j y hj) hg hb
theorem Left.frame (hH : HR cx σ w) (hs : Hp.Le σ0 σ) (h : Left cx σ0 w cx' σ1 w') : Left cx σ w cx' (σ1.over σ σ0) w' := by
 have himm : ∀ g, cx.I g → w'.heap[g]? = w.heap[g]? := fun g hg => h.ext.block g (hH.ilt g hg) (fun ho => hH.apart g (hs.own ho) hg)
 have hle := h.ext.le
 have hfar : ∀ g, σ.own cx g → ¬ σ0.own cx g → ¬ σ1.own cx' g := fun g h1 h2 h3 => (h.ext.fnew g h3).elim h2 (fun h4 => by have := hH.own_lt h1; omega)
 have kM : ∀ k x, σ.gr k = some x → cx'.M k = cx.M k := fun k x hk => hle.M k (hH.gr k x.1 x.2 hk).1
 have hr : HR cx' (σ1.over σ σ0) w' := {
  obj := fun g c hc => by
   rcases over_obj hc with h1 | ⟨_, h0, h1⟩
   ·exact h.heap.obj g c h1
   ·obtain ⟨o, e1, e2⟩ := hH.obj g c h1
    exact ⟨o, (h.ext.block g (lt_of_block e1) (hH.beside_obj hs h0 h1)).trans e1, e2.keep himm hle⟩
  gr := fun k T es hk => by
   rcases over_gr hk with h1 | ⟨_, h0, h1⟩
   ·exact h.heap.gr k T es h1
   ·obtain ⟨a1, a0, a2, xs, a3, a4⟩ := hH.gr k T es h1
    refine ⟨Nat.lt_of_lt_of_le a1 hle.nm, by rw [hle.Z k a1]; exact a0, by rw [hle.Z k a1]; exact a2, xs, ?_, a4.keep himm hle⟩
    rw [hle.Z k a1, hle.M k a1]
    refine ⟨a3.1, ?_⟩
    rcases a3.2 with h5 | ⟨g, cap, cur, e1, e2, e3, e4⟩
    ·exact .inl h5
    ·exact .inr ⟨g, cap, cur, e1, e2, (h.ext.block g (lt_of_block e3) (hH.beside_gr hs h0 h1 (by rw [e1]; rfl))).trans e3, e4⟩
  two := fun k k' x x' g hk hk' h1 h2 => by
   rcases over_gr hk with a | ⟨_, a0, a⟩
   ·rcases over_gr hk' with b | ⟨_, b0, b⟩
    ·exact h.heap.two k k' x x' g a b h1 h2
    ·rw [kM k' x' b] at h2
     exact (hfar g (.inr ⟨k', x', b, h2⟩) (hH.beside_gr hs b0 b h2) (.inr ⟨k, x, a, h1⟩)).elim
   ·rw [kM k x a] at h1
    rcases over_gr hk' with b | ⟨_, b0, b⟩
    ·exact (hfar g (.inr ⟨k, x, a, h1⟩) (hH.beside_gr hs a0 a h1) (.inr ⟨k', x', b, h2⟩)).elim
    ·rw [kM k' x' b] at h2
     exact hH.two k k' x x' g a b h1 h2
  mix := fun k x g c hk hc h1 => by
   rcases over_gr hk with a | ⟨_, a0, a⟩
   ·rcases over_obj hc with b | ⟨_, b0, b⟩
    ·exact h.heap.mix k x g c a b h1
    ·exact hfar g (.inl ⟨c, b⟩) (hH.beside_obj hs b0 b) (.inr ⟨k, x, a, h1⟩)
   ·rw [kM k x a] at h1
    rcases over_obj hc with b | ⟨_, b0, b⟩
    ·exact hfar g (.inr ⟨k, x, a, h1⟩) (hH.beside_gr hs a0 a h1) (.inl ⟨c, b⟩)
    ·exact hH.mix k x g c a b h1
  apart := fun g hg hi => by
   have rest : ∀ g, σ.own cx g → ¬ σ0.own cx g → ¬ cx'.I g := fun g h1 h2 h3 => by
    rcases h.ext.inew g h3 with h4 | h4 | h4
    ·exact hH.apart g h1 h4
    ·exact h2 h4
    ·have := hH.own_lt h1; omega
   rcases hg with ⟨c, hc⟩ | ⟨k, x, hk, hb⟩
   ·rcases over_obj hc with b | ⟨_, b0, b⟩
    ·exact h.heap.apart g (.inl ⟨c, b⟩) hi
    ·exact rest g (.inl ⟨c, b⟩) (hH.beside_obj hs b0 b) hi
   ·rcases over_gr hk with a | ⟨_, a0, a⟩
    ·exact h.heap.apart g (.inr ⟨k, x, a, hb⟩) hi
    ·rw [kM k x a] at hb
     exact rest g (.inr ⟨k, x, a, hb⟩) (hH.beside_gr hs a0 a hb) hi
  ilt := h.heap.ilt }
 refine ⟨hr, ⟨h.ext.os, h.ext.tape, h.ext.output, h.ext.size, fun g hg hf => h.ext.block g hg (fun ho => hf (hs.own ho)), hle, fun g hg => (h.ext.inew g hg).imp id (Or.imp hs.own id), fun g hg => ?_⟩, fun k x hk => ?_, fun g x hg => ?_⟩
 ·rcases hg with ⟨c, hc⟩ | ⟨k, x, hk, hb⟩
  ·rcases over_obj hc with b | ⟨_, b0, b⟩
   ·exact (h.ext.fnew g (.inl ⟨c, b⟩)).imp hs.own id
   ·exact .inl (.inl ⟨c, b⟩)
  ·rcases over_gr hk with a | ⟨_, a0, a⟩
   ·exact (h.ext.fnew g (.inr ⟨k, x, a, hb⟩)).imp hs.own id
   ·rw [kM k x a] at hb
    exact .inl (.inr ⟨k, x, a, hb⟩)
 ·rcases over_gr hk with a | ⟨_, a0, a⟩
  ·exact (h.gnew k x a).imp (fun ⟨y, hy⟩ => ⟨y, hs.gr k y hy⟩) id
  ·exact .inl ⟨x, a⟩
 ·rcases over_obj hg with b | ⟨_, b0, b⟩
  ·exact (h.onew g x b).imp (fun ⟨y, hy⟩ => ⟨y, hs.obj g y hy⟩) id
  ·exact .inl ⟨x, b⟩
structure Hp.Fresh (σ1 σ0 σ : Hp) : Prop where
  obj : ∀ g c, σ1.obj g = some c → σ0.obj g = none → σ.obj g = none
  gr : ∀ k x, σ1.gr k = some x → σ0.gr k = none → σ.gr k = none
theorem ACalls.frame {f : FuncId} {args : List V} {R : V → Hp → Prop} (h : ACalls P f args σ0 R) (hs : Hp.Le σ0 σ) : ACalls P f args σ (fun v σ' => ∃ σ1, R v σ1 ∧ Hp.Fresh σ1 σ0 σ ∧ σ' = σ1.over σ σ0) :=
 ⟨h.1, fun cx w xs hH ha => (h.2 cx w xs (hH.sub hs.obj hs.gr) ha).mono fun e w' ⟨v, r, cx', σ1, h1, h2, h3, h4⟩ =>
  ⟨v, r, cx', _, h1, h2, h3.frame hH hs, σ1, h4, ⟨fun g c hc h0 => by
   rcases h3.onew g c hc with ⟨y, hy⟩ | hg
   ·rw [h0] at hy; cases hy
   ·cases e : σ.obj g with
    | none => rfl
    | some y => have := hH.own_lt (.inl ⟨y, e⟩); omega, fun k x hk h0 => by
   rcases h3.gnew k x hk with ⟨y, hy⟩ | hg
   ·rw [h0] at hy; cases hy
   ·cases e : σ.gr k with
    | none => rfl
    | some y => have := (hH.gr k y.1 y.2 e).1; omega⟩, rfl⟩⟩
end
end Go.Abs
namespace Go.Abs
open Go
section
variable {P : Program} {B : Base} {n : Nat} {cx : Cx} {s : St} {σ : Hp} {a : Act} {w : World} {Q : Exit → St → Hp → Prop}
variable [Mode]
def ipV (g : Nat) (cells : List V) : V → V
  | .c (.pointer (some ⟨b, o, none⟩)) => if b = g then .ip [cells] 0 o else .c (.pointer (some ⟨b, o, none⟩))
  | v => v
def St.ip (s : St) (g : Nat) (cells : List V) : St := ⟨fun t => ipV g cells (s.t t), s.l⟩
@[simp] theorem St.ip_t (s : St) (g : Nat) (cells : List V) (t : Nat) : (s.ip g cells).t t = ipV g cells (s.t t) := rfl
@[simp] theorem St.ip_l (s : St) (g : Nat) (cells : List V) (d : Nat) : (s.ip g cells).l d = s.l d := rfl
theorem VR.ip_off {es : List (List V)} {g o off : Nat} (h : VR w cx (.ip es 0 o) (.pointer (some ⟨g, o, none⟩))) : VR w cx (.ip es 0 off) (.pointer (some ⟨g, off, none⟩)) := by
  generalize hx : (.pointer (some ⟨g, o, none⟩) : Value) = x at h
  cases h with
  | @ip _ sz b o' _ _ f hI hi hlen hc hr h1 =>
    injection hx with hx; injection hx with hx; injection hx with hb ho
    subst hb
    have ho' : o' = 0 := by omega
    subst ho'
    have := VR.ip (w := w) (cx := cx) (es := es) (sz := sz) (b := g) (o := 0) (i := 0) (off := off) f hI hi hlen hc hr h1
    simpa using this
def bxV (d : Nat) (cells : List V) : V → V
  | .lp e o => if e = d then .ip [cells] 0 o else .lp e o
  | v => v
def St.bx (s : St) (d : Nat) (cells : List V) : St := ⟨fun t => bxV d cells (s.t t), fun e => if e = d then none else s.l e⟩
@[simp] theorem St.bx_t (s : St) (d : Nat) (cells : List V) (t : Nat) : (s.bx d cells).t t = bxV d cells (s.t t) := rfl
@[simp] theorem St.bx_l (s : St) (d : Nat) (cells : List V) (e : Nat) : (s.bx d cells).l e = if e = d then none else s.l e := rfl
theorem SR.hushBox (h : SR B n cx s σ a w) {d : Nat} {cells : List V} (hd : s.l d = some cells) (_hc : cells ≠ []) : SR B n (cx.addI (cx.L d)) (s.bx d cells) σ a w := by
 obtain ⟨T, cs, hb, hvs⟩ := h.box.box d cells hd
 obtain ⟨hai, hao⟩ := h.box.apart d cells hd
 have hle := cx.le_addI (cx.L d)
 have hH : HR (cx.addI (cx.L d)) σ w := h.heap.keep hle (fun _ => False) (fun _ h => h.elim) (fun _ h => h.elim) (fun g' (hg' : cx.I g' ∨ g' = cx.L d) ho => by
   rcases hg' with h1 | h1
   ·exact h.heap.apart g' ho h1
   ·exact hao (h1 ▸ ho)) (fun g' (hg' : cx.I g' ∨ g' = cx.L d) => by
   rcases hg' with h1 | h1
   ·exact h.heap.ilt g' h1
   ·rw [h1]; exact lt_of_block hb) (fun _ _ _ => rfl)
 have hip : VR w (cx.addI (cx.L d)) (.ip [cells] 0 0) (.pointer (some ⟨cx.L d, 0, none⟩)) := by
  have hvk := hvs.keep (w' := w) (cx' := cx.addI (cx.L d)) (fun _ _ => rfl) hle
  have := VR.ip (w := w) (cx := cx.addI (cx.L d)) (es := [cells]) (sz := cells.length) (b := cx.L d) (o := 0) (i := 0) (off := 0) (fun i j => cs.getD j undef) (.inr rfl) (by simp)
   (fun i e he => by
    rcases i with _ | i
    ·simp at he; rw [← he]
    ·simp at he)
   (fun i j hi hj => by
    have h0 : i = 0 := by simp at hi; exact hi
    subst h0
    have hjl : j < cs.length := by rw [← hvs.1]; exact hj
    simp [World.cell?, hb, List.getD, hjl])
   (fun i e j v he hv => by
    rcases i with _ | i
    ·simp at he; subst he
     have hjl : j < cs.length := by rw [← hvs.1]; exact (List.getElem?_eq_some_iff.1 hv).1
     exact hvk.2.2 j v _ hv (by simp [List.getD, hjl])
    ·simp at he)
   (fun i j hi hj => by
    have hjl : j < cs.length := by rw [← hvs.1]; exact hj
    exact hvs.2.1 _ (by simp only [List.getD, List.getElem?_eq_getElem hjl]; exact List.getElem_mem _))
  simpa using this
 have hl : ∀ e c, (s.bx d cells).l e = some c → e ≠ d ∧ s.l e = some c := fun e c he => by
  rw [St.bx_l] at he
  split at he
  ·cases he
  ·exact ⟨‹_›, he⟩
 have hfoot : ∀ g', foot (cx.addI (cx.L d)) σ (s.bx d cells).l g' → foot cx σ s.l g' := fun g' hf => by
  rcases hf with hf | ⟨e, c, he, e'⟩
  ·exact .inl hf
  ·exact .inr ⟨e, c, (hl e c he).2, e'⟩
 have hgo : foot cx σ s.l (cx.L d) := .inr ⟨d, cells, hd, rfl⟩
 refine ⟨h.size, h.defers.mono hfoot (fun g' hi => ?_), h.nd, fun t => ?_, hH, ?_, ?_, h.gnew, h.onew, h.stab, h.stN, fun e c he hs => h.stS e c (hl e c he).2 hs⟩
 ·rcases (show cx.I g' ∨ g' = cx.L d from hi) with hi | rfl
  ·exact .inl hi
  ·exact .inr hgo
 ·have ht := h.tmp t
  show TR w (cx.addI (cx.L d)) (bxV d cells (s.t t)) (a.tmps.getD t undef)
  generalize s.t t = v at ht
  generalize a.tmps.getD t undef = x at ht
  have keep : TR w (cx.addI (cx.L d)) v x := by
   cases ht with
   | v hv => exact .v (hv.keep (fun _ _ => rfl) hle)
   | lp e off => exact .lp (cx := cx.addI (cx.L d)) e off
   | junk => exact .junk _
  unfold bxV
  split
  ·rename_i e o
   split
   ·rename_i e'
    subst e'
    cases ht with
    | v hv => cases hv
    | lp => exact .v hip.ip_off
   ·exact keep
  ·exact keep
 ·refine ⟨fun e c he => ?_, fun e c he => ⟨fun hi => ?_, fun ho => (h.box.apart e c (hl e c he).2).2 ho⟩, fun e e' c c' he he' => h.box.inj e e' c c' (hl e c he).2 (hl e' c' he').2⟩
  ·obtain ⟨T, cs, h1, h2⟩ := h.box.box e c (hl e c he).2
   exact ⟨T, cs, h1, h2.keep (fun _ _ => rfl) hle⟩
  ·rcases (show cx.I (cx.L e) ∨ cx.L e = cx.L d from hi) with hi | hi
   ·exact (h.box.apart e c (hl e c he).2).1 hi
   ·exact (hl e c he).1 (h.box.inj e d c cells (hl e c he).2 hd hi)
 ·have he := h.ext
  refine ⟨he.os, he.tape, he.output, he.size, he.block, he.le.trans hle, fun g' hi => ?_, fun g' hf => he.fnew g' (hfoot g' hf)⟩
  rcases (show cx.I g' ∨ g' = cx.L d from hi) with hi | rfl
  ·exact he.inew g' hi
  ·rcases he.fnew _ hgo with h1 | h1
   ·exact .inr (.inl h1)
   ·exact .inr (.inr h1)
theorem AW.hushBox {c : Code} {d : Nat} {cells : List V} (hd : s.l d = some cells) (hc : cells ≠ []) (h : AW P n c Q (s.bx d cells) σ) : AW P n c Q s σ :=
 fun B cx a w h1 h2 h3 => h B (cx.addI (cx.L d)) a w h1 h2 (h3.hushBox hd hc)
end
end Go.Abs
namespace Go.Abs
open Go
section
variable {P : Program} {F : Fence} {m n : Nat} {r : Option Nat} {s : St} {σ : Hp} {Q : Exit → St → Hp → Prop}
variable [Mode]
theorem wpIn_loop_rel {c : Code} {a : Act} {w : World} {Q : Exit → Act → World → Prop} (I : Nat → Act → World → Prop) (h₀ : ∃ m, I m a w)
    (round : ∀ m a w, I m a w → c.wpIn F n P (Exit.then (fun a' w' => ∃ m', m' < m ∧ I m' a' w') Q) a w) : (Code.loop c).wpIn F n P Q a w := by
  intro b k cs hro hb hr
  have key : ∀ m a w, I m a w → ∃ e a' w', Q e a' w' ∧ ArrivesIn (Machine.fenced P F) P (lone (b.atR a (.code c :: .inLoop c :: k)) cs w) b k cs e a' w' := by
    intro m
    induction m using Nat.strongRecOn with
    | _ m ih =>
      intro a w hI
      obtain ⟨e, a₁, w₁, hq, harr⟩ := round m a w hI b (.inLoop c :: k) cs hro hb hr
      cases e with
      | normal =>
        obtain ⟨m', hlt, hI₁⟩ := hq
        obtain ⟨e₂, a₂, w₂, hq₂, harr₂⟩ := ih m' hlt a₁ w₁ hI₁
        exact ⟨e₂, a₂, w₂, hq₂, .of_steps (StepsIn.trans harr (.one (fenced_calm hb hr rfl) stepR_inLoop)) harr₂⟩
      | exit id => exact ⟨_, a₁, w₁, hq, .pass (x := .inLoop c) rfl (fun _ _ => .inl (by simp)) harr⟩
      | goto l => exact ⟨_, a₁, w₁, hq, .pass (x := .inLoop c) rfl (fun _ _ => .inl (by simp)) harr⟩
      | ret => exact ⟨_, a₁, w₁, hq, .pass (x := .inLoop c) rfl (fun _ _ => .inl (by simp)) harr⟩
      | panic ch => exact ⟨_, a₁, w₁, hq, .pass (x := .inLoop c) rfl (fun _ _ => .inl (by simp)) harr⟩
      | outgrown => exact ⟨_, a₁, w₁, hq, .pass (x := .inLoop c) rfl (fun _ _ => .inl (by simp)) harr⟩
  obtain ⟨m, hm⟩ := h₀
  obtain ⟨e, a', w', hq, harr⟩ := key m a w hm
  exact ⟨e, a', w', hq, .of_steps (.one (fenced_calm hb hr rfl) stepR_loop) harr⟩
theorem AWR.loop {c : Code} (I : Nat → St → Hp → Prop) (m : Nat) (h0 : I m s σ) (hr : ∀ m s σ, I m s σ → AWR P n r c (thenS (fun s' σ' => ∃ m', m' < m ∧ I m' s' σ') Q) s σ) : AWR P n r (.loop c) Q s σ :=
 fun B cx a w h1 h2 h3 => wpIn_loop_rel (fun m a w => ∃ cx s σ, SR B n cx s σ a w ∧ I m s σ) ⟨m, cx, s, σ, h3, h0⟩ fun m a w ⟨cx, s, σ, h4, h5⟩ =>
  wpIn_mono (hr m s σ h5 B cx a w h1 h2 h4) fun e a' w' ⟨cx', s', σ', h6, h7⟩ => by
   cases e with
   | normal => obtain ⟨m', hm, hI⟩ := h7; exact ⟨m', hm, cx', s', σ', h6, hI⟩
   | _ => exact ⟨cx', s', σ', h6, h7⟩
theorem AWR.seq_j {x y : Code} (J : St → Hp → Prop) (h : AWR P n r x (thenS J Q) s σ) (hy : ∀ s σ, J s σ → AWR P n r y Q s σ) : AWR P n r (.seq x y) Q s σ :=
 .seq (h.mono fun e s σ hq => by
  cases e with
  | normal => exact hy s σ hq
  | _ => exact hq)
end
end Go.Abs
namespace Go.Abs
open Go
variable [Mode]
omit [Mode] in
theorem VAs.consts {w : World} {cx : Cx} {vs xs : List Value} (h : VAs w cx (vs.map V.c) xs) : xs = vs := by
 obtain ⟨hl, h⟩ := h
 rw [List.length_map] at hl
 have key : ∀ x y, VR w cx (.c x) y → y = x := fun _ _ h => by cases h; rfl
 apply List.ext_getElem?
 intro i
 by_cases hi : i < vs.length
 ·have hx : i < xs.length := by rw [← hl]; exact hi
  have h1 : (vs.map V.c)[i]? = some (V.c vs[i]) := by rw [List.getElem?_map, List.getElem?_eq_getElem hi]; rfl
  have h2 := h i _ _ h1 (List.getElem?_eq_getElem hx)
  rw [List.getElem?_eq_getElem hi, List.getElem?_eq_getElem hx]
  rw [key _ _ h2]
 ·rw [List.getElem?_eq_none (by omega), List.getElem?_eq_none (by omega)]
end Go.Abs
namespace Go.Abs.M
open Go Go.Abs Go.Proofs
variable [Mode]
set_option maxRecDepth 20000
def cmpS (a b : ByteArray) : Int := if Op.bytesLess a.toList b.toList then -1 else if (Op.bytesLess a.toList b.toList || a.toList == b.toList) then 0 else 1
theorem isnan_spec (a : ByteArray) : PCalls Tryz.prog 171 [.c (.string a)] (fun v => v = .c (.bool false)) := by
 refine PCalls.intro Tryz.call171 Tryz.func171 rfl Tryz.ntmps171 Tryz.results171 (by simp) ?_
 all_goals refine AW.sr trivial ?_
 all_goals refine AW.sr trivial ?_
 refine AW.ret ?_
 all_goals simp only [zs, simprocAttr]
 all_goals simp
def encI (n : Int) : List V := [.c (.int .i64 n)]
def minL (a : Int) (r : List Int) : Int := r.foldl (fun m b => if b < m then b else m) a
def maxL (a : Int) (r : List Int) : Int := r.foldl (fun m b => if m < b then b else m) a
def beginOf (l : List Bd) : Int := match l.map (·.ev.time) with
  | [] => 0
  | a :: r => minL a r
def endOf (l : List Bd) : Int := match l.map (·.ev.time) with
  | [] => 0
  | a :: r => maxL a r
def hpB (k : Nat) (l : List Bd) : Hp := Hp.empty.setGr k (some ((156, 6), l.map encBd))
def Sub (l0 l : List Bd) : Prop := l.length = l0.length ∧ ∀ x ∈ l, x ∈ l0
theorem Sub.refl (l : List Bd) : Sub l l := ⟨rfl, fun _ h => h⟩
theorem Sub.trans {a b c : List Bd} (h : Sub a b) (k : Sub b c) : Sub a c := ⟨k.1.trans h.1, fun x hx => h.2 x (k.2 x hx)⟩
def own (s : St) (σ : Hp) (t : Nat) (l : List Bd) : Prop := (l = [] ∧ s.t t = .c (.slice none 0 0) ∧ σ = Hp.empty) ∨ ∃ g, s.t t = .gl g ∧ σ = hpB g l
theorem bytesLess_eq' : ∀ (x y : List UInt8), Op.bytesLess x y = decide (x < y)
  | [], [] => by simp [Op.bytesLess]
  | _ :: _, [] => by simp [Op.bytesLess]
  | [], _ :: _ => by simp [Op.bytesLess]
  | a :: x, b :: y => by
    rw [Op.bytesLess, bytesLess_eq' x y]
    simp only [List.cons_lt_cons_iff]
    by_cases h1 : a < b <;> by_cases h2 : a = b <;> by_cases h3 : x < y <;> simp [h1, h2, h3]
def Srt : List Bd → Prop
  | [] => True
  | x :: p => (∀ y ∈ p, leS x.var y.var = true) ∧ Srt p
theorem Srt.append {p q : List Bd} (h : Srt (p ++ q)) : Srt p ∧ Srt q ∧ ∀ x ∈ p, ∀ y ∈ q, leS x.var y.var = true := by
  induction p with
  | nil => exact ⟨trivial, h, fun x hx => by cases hx⟩
  | cons x p ih =>
    obtain ⟨h1, h2⟩ := h
    obtain ⟨a, b, c⟩ := ih h2
    refine ⟨⟨fun y hy => h1 y (List.mem_append_left _ hy), a⟩, b, fun z hz y hy => ?_⟩
    rcases List.mem_cons.1 hz with rfl | hz
    · exact h1 y (List.mem_append_right _ hy)
    · exact c z hz y hy
theorem allEq_refl {α : Type} {f : α → α → Bool} (h : ∀ x, f x x = true) : ∀ l : List α, allEq f l l = true
 | [] => rfl
 | x :: l => by simp [allEq, h, allEq_refl h l]
structure okI (l : List Bd) : Prop where
  ok : okP l
  attrs : ∀ x ∈ l, x.ev.attrs.length * 48 ≤ 140737488355328
  len : l.length * 80 ≤ 140737488355328
structure okM (l : List Bd) : Prop where
  ok : okP l
  attrs : ∀ x ∈ l, x.ev.attrs.length * 48 ≤ 140737488355328
theorem okI.m {l : List Bd} (h : okI l) : okM l := ⟨h.ok, h.attrs⟩
def cmpI (a b : Int) : Int := if a < b then -1 else if b < a then 1 else 0
def orI : List Int → Int
  | [] => 0
  | a :: l => if a ≠ 0 then a else orI l
def cmpId (a b : Int × Int) : Int := orI [cmpI a.1 b.1, cmpI a.2 b.2]
def cmpV (a b : Val) : Int × Bool := if a.kind = 1 ∧ b.kind = 1 then (cmpI a.n b.n, true) else if a.kind = 2 ∧ b.kind = 2 then (cmpS a.s b.s, true) else (0, false)
def someV (a : Val) : Bool := decide (a.kind = 1 ∨ a.kind = 2)
def relB (rel n : Int) : Bool := if rel = 1 then n == 0 else if rel = 2 then !(n == 0) else if rel = 3 then decide (n < 0) else if rel = 4 then decide (n ≤ 0) else if rel = 5 then decide (n > 0) else if rel = 6 then decide (n ≥ 0) else false
def holdsV (rel : Int) (a b : Val) : Bool := if (cmpV a b).2 then relB rel (cmpV a b).1 else decide (rel = 2) && someV a && someV b
end Go.Abs.M
namespace Go.Abs
open Go Go.MapKept
open Go.WideElems (Fit rd rg pl rd_val elemAt)
def isStr : Value → Bool
  | .string _ => true
  | _ => false
theorem bytes_eq_iff (a b : ByteArray) : (a.toList == b.toList) = (a == b) := by
 rw [Bool.eq_iff_iff, bytes_beq, beq_iff_eq, ByteArray.toList_eq, ByteArray.toList_eq]
 constructor
 ·intro h
  cases a; cases b
  exact congrArg _ (Array.toList_inj.1 h)
 ·intro h; rw [h]
theorem isStr_str {x : Value} (h : isStr x = true) : ∃ s, x = .string s := by
 cases x <;> simp [isStr] at h
 exact ⟨_, rfl⟩
theorem findNow_str (a : ByteArray) : ∀ (ms : List MapEntry) (i : Nat), (∀ m ∈ ms, isStr m.key = true) → Instr.findNow .string (.string a) ms i = some (findM (.string a) ms i)
  | [], i, _ => rfl
  | m :: ms, i, h => by
    obtain ⟨s, hs⟩ := isStr_str (h m List.mem_cons_self)
    have ih := findNow_str a ms (i + 1) fun x hx => h x (List.mem_cons_of_mem _ hx)
    simp only [Instr.findNow, findM, hs, Instr.sameNow, sameK, cellEq, bytes_eq_iff]
    cases (a == s)
    · exact ih
    · rfl
theorem KeyT.str {P : Program} {kt : TypeId} (hu : P.underlying kt = some .string) : KeyT P kt isStr := by
 refine ⟨fun em x w hx => ?_, fun x ms w hx hm => ?_, fun x y w hx hy hs => ?_⟩
 ·obtain ⟨s, rfl⟩ := isStr_str hx
  exact run_checkKey hu (by simp [IsKey]) em 9999
 ·obtain ⟨s, rfl⟩ := isStr_str hx
  exact run_findKey hu (findNow_str s ms 0 hm)
 ·obtain ⟨s, rfl⟩ := isStr_str hx
  obtain ⟨t, rfl⟩ := isStr_str hy
  simp only [sameK, cellEq, bytes_eq_iff, bytes_beq] at hs
  subst hs
  simp [Instr.keyThatStays, Instr.sameBits, (bytes_beq s s).2 rfl]
def entS (names : List ByteArray) : List V := names.map fun s => .tup [.c (.string s), .c (.bool true)]
theorem entS_ok : ∀ names : List ByteArray, entOk isStr (entS names) = true
  | [] => rfl
  | s :: l => by
    have := entS_ok l
    simp only [entS, List.map_cons, entOk, isStr, okV, Bool.true_and] at this ⊢
    exact this
def addN (names : List ByteArray) (s : ByteArray) : List ByteArray := if names.any (fun t => s.toList == t.toList) then names else names ++ [s]
theorem entV_cons (k v : Value) (u : V) (es : List V) (i : Nat) : entV (.tup [.c k, u] :: es) v i = if sameK v k then some (i, u) else entV es v (i + 1) := rfl
theorem entS_at (s : ByteArray) : ∀ (l : List ByteArray) (i : Nat), ((l.any (fun t => s.toList == t.toList)) = false ∧ entV (entS l) (.string s) i = none) ∨ ((l.any (fun t => s.toList == t.toList)) = true ∧ ∃ j, entV (entS l) (.string s) i = some (i + j, .c (.bool true)) ∧ l[j]? = some s)
  | [], i => .inl ⟨rfl, rfl⟩
  | t :: l, i => by
    have hc : entV (entS (t :: l)) (.string s) i = if (s.toList == t.toList) then some (i, .c (.bool true)) else entV (entS l) (.string s) (i + 1) := entV_cons (.string t) (.string s) (.c (.bool true)) (entS l) i
    rw [hc, List.any_cons]
    cases h : (s.toList == t.toList)
    · rw [Bool.false_or, if_neg Bool.false_ne_true]
      rcases entS_at s l (i + 1) with h1 | ⟨h1, j, h2, h3⟩
      · exact .inl h1
      · exact .inr ⟨h1, j + 1, by rw [h2]; congr 2; omega, by simpa using h3⟩
    · have e : s = t := (bytes_beq s t).1 (by rw [← bytes_eq_iff]; exact h)
      exact .inr ⟨by rw [Bool.true_or], 0, by rw [if_pos rfl]; rfl, by rw [e]; rfl⟩
theorem entS_upd (s : ByteArray) (names : List ByteArray) : (match entV (entS names) (.string s) 0 with | some (j, _) => (entS names).set j (.tup [.c (.string s), .c (.bool true)]) | none => entS names ++ [.tup [.c (.string s), .c (.bool true)]]) = entS (addN names s) := by
 rcases entS_at s names 0 with ⟨h1, h2⟩ | ⟨h1, j, h2, h3⟩
 ·rw [h2, addN, h1, if_neg Bool.false_ne_true]
  simp [entS]
 ·rw [h2, addN, h1, if_pos rfl, Nat.zero_add]
  have hj : (entS names)[j]? = some (.tup [.c (.string s), .c (.bool true)]) := by simp [entS, h3]
  show (entS names).set j _ = entS names
  apply List.ext_getElem?
  intro i
  rw [List.getElem?_set]
  split
  ·rename_i e
   subst e
   rw [hj, if_pos (List.getElem?_eq_some_iff.1 hj).1]
  ·rfl
theorem addN_nodup {names : List ByteArray} {s : ByteArray} (h : names.Nodup) : (addN names s).Nodup := by
 unfold addN
 split
 ·exact h
 ·rename_i hn
  refine List.nodup_append.2 ⟨h, by simp, fun a ha b hb e => hn ?_⟩
  rw [List.mem_singleton] at hb
  subst hb; subst e
  exact List.any_eq_true.2 ⟨a, ha, by simp⟩
theorem addN_mem {names : List ByteArray} {s t : ByteArray} : t ∈ addN names s ↔ t = s ∨ t ∈ names := by
 unfold addN
 split
 ·rename_i hn
  refine ⟨.inr, fun h => h.elim (fun e => ?_) id⟩
  subst e
  obtain ⟨u, hu, he⟩ := List.any_eq_true.1 hn
  have e : t = u := (bytes_beq t u).1 (by rw [← bytes_eq_iff]; exact he)
  rw [e]; exact hu
 ·rw [List.mem_append, List.mem_singleton]; exact ⟨fun h => h.symm, fun h => h.symm⟩
theorem ownsMap_of {P : Program} {kt et : TypeId} (hk : P.underlying kt = some .string) (he : P.underlying et = some .bool) {w : World} {cx : Cx} {g : Nat} {names : List ByteArray} (hn : names.Nodup) (hs : ∀ s ∈ names, s.size ≤ maxLen) (hl : names.length ≤ maxLen)
    (h : ∃ o, w.heap[g]? = some o ∧ OR w cx [.tup (entS names)] o) :
    ∃ D : DataW Unit, w.ownsMap P kt (plainElem P et) g names.length D ∧ Maps.size D = names.length ∧ (strKeys D).Perm (names.map fun s => s.data.toList) := by
  obtain ⟨o, ho, hor⟩ := h
  generalize hv : [V.tup (entS names)] = vs at hor
  cases hor with
  | cells hvr => subst hv; letI : Mode := ⟨True⟩; exact (noTupRow hvr).elim
  | told us T p q => cases names <;> simp [entS] at hv
  | @map es ms clock hlen hh hb hc =>
    have hes : es = entS names := by injection hv with hv; injection hv with hv; exact hv.symm
    subst hes
    have hlen : names.length = ms.length := by simpa [entS] using hlen
    have hent : ∀ (i : Nat) (s : ByteArray) (m : MapEntry), names[i]? = some s → ms[i]? = some m → m.key = .string s ∧ m.val = .bool true := fun i s m h1 h2 => by
      obtain ⟨v, e, hvr⟩ := hh i _ m (show (entS names)[i]? = some (.tup [.c (.string s), .c (.bool true)]) by simp [entS, h1]) h2
      injection e with e
      injection e with e1 e2
      injection e1 with e1
      injection e2 with e2
      subst e2
      exact ⟨e1.symm, (TR.v hvr).c_eq⟩
    have hall : ∀ m ∈ ms, ∃ s ∈ names, m.key = .string s ∧ m.val = .bool true := fun m hm => by
      obtain ⟨i, hi⟩ := List.getElem?_of_mem hm
      have hil : i < names.length := by rw [hlen]; exact (List.getElem?_eq_some_iff.1 hi).1
      exact ⟨names[i], List.getElem_mem hil, hent i _ m (List.getElem?_eq_getElem hil) hi⟩
    have hkey : ms.map (·.key) = names.map Value.string := by
      apply List.ext_getElem?
      intro i
      rw [List.getElem?_map, List.getElem?_map]
      by_cases hi : i < names.length
      · have hi' : i < ms.length := by omega
        rw [List.getElem?_eq_getElem hi, List.getElem?_eq_getElem hi']
        have := (hent i _ _ (List.getElem?_eq_getElem hi) (List.getElem?_eq_getElem hi')).1
        simp only [Option.map_some]; rw [this]
      · rw [List.getElem?_eq_none (by omega), List.getElem?_eq_none (by omega)]; rfl
    have hrd : ∀ m ∈ ms, ∀ s, m.key = .string s → m.val = .bool true → s.size ≤ maxLen → rd P kt (plainElem (H := Unit) P et) m = some (.string s.data.toList, .lit (.bool true)) := fun m _ s h1 h2 h3 => by
      simp [rd, h1, h2, keyOf, hk, mapKey, h3, plainElem_bool he]
    have hrgs : ms.map (rg P kt (plainElem (H := Unit) P et)) = names.map fun s => ((.string s.data.toList, .lit (.bool true)) : Lit × DataW Unit) := by
      apply List.ext_getElem?
      intro i
      rw [List.getElem?_map, List.getElem?_map]
      by_cases hi : i < names.length
      · have hi' : i < ms.length := by omega
        rw [List.getElem?_eq_getElem hi, List.getElem?_eq_getElem hi']
        obtain ⟨a1, a2⟩ := hent i _ _ (List.getElem?_eq_getElem hi) (List.getElem?_eq_getElem hi')
        simp only [Option.map_some, rg, hrd _ (List.getElem_mem hi') _ a1 a2 (hs _ (List.getElem_mem hi)), Option.getD_some]
      · rw [List.getElem?_eq_none (by omega), List.getElem?_eq_none (by omega)]; rfl
    refine ⟨.map ((ms.map (rg P kt (plainElem (H := Unit) P et))).foldr DataW.insert []), ⟨⟨ms⟩, clock, ho, ⟨by simp; omega, ⟨by simpa using hc, ?_, ?_⟩, fun x hx => ?_⟩, by simp; omega, rfl⟩, ?_, ?_⟩
    · simp only
      rw [List.nodup_iff_pairwise_ne, List.pairwise_map]; exact hb
    · simp only
      rw [hkey, List.nodup_iff_pairwise_ne, List.pairwise_map]
      exact (List.nodup_iff_pairwise_ne.1 hn).imp fun h e => h (by injection e)
    · obtain ⟨s, h1, h2, h3⟩ := hall x hx
      exact ⟨_, hrd x hx s h2 h3 (hs s h1)⟩
    · show (List.foldr DataW.insert [] _).length = _
      rw [length_sorted, List.length_map, hlen]
    · show (List.map (fun p => strOf p.1) (List.foldr DataW.insert [] _)).Perm _
      refine ((Go.WideShapes.sorted_perm _).map _).trans ?_
      rw [hrgs, List.map_map]
      exact .refl _
end Go.Abs
namespace Go.Proofs
open Go.RowKit Go.Maps Go.Sort Go.Shelf
def Tryz.keys125_ren : Go.Shelf.Ren := ⟨fun | 7 => 119 | 10 => 161 | n => n, fun | 23 => 124 | 26 => 9 | 3 => 4 | 28 => 166 | 0 => 0 | 27 => 165 | 33 => 116 | 4 => 4 | n => n, fun | n => n⟩
theorem Tryz.keys125 : Go.Proofs.SlLaysZ.n7 Tryz.prog Tryz.keys125_ren := {
 mixed := by kernel_rfl
 f7 := ⟨Tryz.f119.name, by decide, Tryz.func119.trans (congrArg some (by kernel_rfl))⟩
 f10 := ⟨Tryz.f161.name, by decide, Tryz.func161.trans (congrArg some (by kernel_rfl))⟩
 t0 := Tryz.underlying0
 a0 := Tryz.isAgg0
 z0 := Tryz.sizeOf0
 v0 := Tryz.zeroValue0
 t4 := Tryz.underlying4
 a4 := Tryz.isAgg4
 z4 := Tryz.sizeOf4
 v4 := Tryz.zeroValue4
 t23 := Tryz.underlying124
 a23 := Tryz.isAgg124
 z23 := Tryz.sizeOf124
 v23 := Tryz.zeroValue124
 t26 := Tryz.underlying9
 a26 := Tryz.isAgg9
 z26 := Tryz.sizeOf9
 v26 := Tryz.zeroValue9
 t27 := Tryz.underlying165
 a27 := Tryz.isAgg165
 z27 := Tryz.sizeOf165
 v27 := Tryz.zeroValue165
 t28 := Tryz.underlying166
 a28 := Tryz.isAgg166
 z28 := Tryz.sizeOf166
 v28 := Tryz.zeroValue166
 t33 := Tryz.underlying116
 a33 := Tryz.isAgg116
 z33 := Tryz.sizeOf116
 v33 := Tryz.zeroValue116 }
def Tryz.sorted124_ren : Go.Shelf.Ren := ⟨fun | 6 => 118 | 8 => 160 | 9 => 157 | 11 => 182 | 13 => 173 | 12 => 181 | 23 => 201 | 24 => 202 | 14 => 207 | 15 => 208 | 16 => 209 | 17 => 210 | 18 => 211 | 19 => 212 | 20 => 213 | 21 => 214 | 22 => 215 | 25 => 229 | 26 => 223 | 27 => 224 | 28 => 230 | 29 => 231 | 30 => 171 | 31 => 237 | n => n, fun | 26 => 9 | 28 => 166 | 24 => 81 | 0 => 0 | 3 => 3 | 37 => 210 | 48 => 238 | 50 => 219 | 4 => 4 | 40 => 232 | 39 => 231 | 45 => 130 | 5 => 5 | 9 => 9 | 51 => 252 | 55 => 256 | 57 => 260 | 58 => 261 | 33 => 116 | n => n, fun | n => n⟩
theorem Tryz.sorted124 : Go.Proofs.SlLaysZ.n6 Tryz.prog Tryz.sorted124_ren := {
 mixed := by kernel_rfl
 f6 := ⟨Tryz.f118.name, by decide, Tryz.func118.trans (congrArg some (by kernel_rfl))⟩
 f8 := ⟨Tryz.f160.name, by decide, Tryz.func160.trans (congrArg some (by kernel_rfl))⟩
 f11 := ⟨Tryz.f182.name, by decide, Tryz.func182.trans (congrArg some (by kernel_rfl))⟩
 t0 := Tryz.underlying0
 a0 := Tryz.isAgg0
 z0 := Tryz.sizeOf0
 v0 := Tryz.zeroValue0
 t24 := Tryz.underlying81
 a24 := Tryz.isAgg81
 z24 := Tryz.sizeOf81
 v24 := Tryz.zeroValue81
 t26 := Tryz.underlying9
 a26 := Tryz.isAgg9
 z26 := Tryz.sizeOf9
 v26 := Tryz.zeroValue9
 t28 := Tryz.underlying166
 a28 := Tryz.isAgg166
 z28 := Tryz.sizeOf166
 v28 := Tryz.zeroValue166
 i26 := by kernel_rfl }
def Tryz.sort151_ren : Go.Shelf.Ren := ⟨fun | 6 => 157 | 8 => 173 | 9 => 181 | 19 => 201 | 20 => 202 | 21 => 207 | 22 => 208 | 23 => 209 | 24 => 210 | 25 => 211 | 26 => 212 | 27 => 213 | 28 => 214 | 29 => 215 | 36 => 229 | 31 => 223 | 32 => 224 | 37 => 230 | 38 => 231 | 39 => 171 | 41 => 237 | n => n, fun | 27 => 81 | 29 => 9 | 3 => 3 | 32 => 210 | 26 => 81 | 0 => 0 | 44 => 238 | 46 => 219 | 4 => 4 | 36 => 232 | 35 => 231 | 41 => 130 | 5 => 5 | 9 => 9 | 53 => 252 | 57 => 256 | 63 => 260 | 64 => 261 | n => n, fun | n => n⟩
theorem Tryz.sort151 : Go.Proofs.SlLaysM.n6 Tryz.prog Tryz.sort151_ren := {
 mixed := by kernel_rfl
 f6 := ⟨Tryz.f157.name, by decide, Tryz.func157.trans (congrArg some (by kernel_rfl))⟩
 f8 := Tryz.func173.trans (congrArg some (by kernel_rfl))
 f9 := ⟨Tryz.f181.name, by decide, Tryz.func181.trans (congrArg some (by kernel_rfl))⟩
 f19 := Tryz.func201.trans (congrArg some (by kernel_rfl))
 f20 := Tryz.func202.trans (congrArg some (by kernel_rfl))
 f21 := ⟨Tryz.f207.name, by decide, Tryz.func207.trans (congrArg some (by kernel_rfl))⟩
 f22 := ⟨Tryz.f208.name, by decide, Tryz.func208.trans (congrArg some (by kernel_rfl))⟩
 f23 := ⟨Tryz.f209.name, by decide, Tryz.func209.trans (congrArg some (by kernel_rfl))⟩
 f24 := ⟨Tryz.f210.name, by decide, Tryz.func210.trans (congrArg some (by kernel_rfl))⟩
 f25 := ⟨Tryz.f211.name, by decide, Tryz.func211.trans (congrArg some (by kernel_rfl))⟩
 f26 := ⟨Tryz.f212.name, by decide, Tryz.func212.trans (congrArg some (by kernel_rfl))⟩
 f27 := ⟨Tryz.f213.name, by decide, Tryz.func213.trans (congrArg some (by kernel_rfl))⟩
 f28 := ⟨Tryz.f214.name, by decide, Tryz.func214.trans (congrArg some (by kernel_rfl))⟩
 f29 := ⟨Tryz.f215.name, by decide, Tryz.func215.trans (congrArg some (by kernel_rfl))⟩
 f31 := Tryz.func223.trans (congrArg some (by kernel_rfl))
 f32 := Tryz.func224.trans (congrArg some (by kernel_rfl))
 f36 := ⟨Tryz.f229.name, by decide, Tryz.func229.trans (congrArg some (by kernel_rfl))⟩
 f37 := ⟨Tryz.f230.name, by decide, Tryz.func230.trans (congrArg some (by kernel_rfl))⟩
 f38 := ⟨Tryz.f231.name, by decide, Tryz.func231.trans (congrArg some (by kernel_rfl))⟩
 f39 := ⟨Tryz.f171.name, by decide, Tryz.func171.trans (congrArg some (by kernel_rfl))⟩
 f41 := ⟨Tryz.f237.name, by decide, Tryz.func237.trans (congrArg some (by kernel_rfl))⟩
 t0 := Tryz.underlying0
 a0 := Tryz.isAgg0
 z0 := Tryz.sizeOf0
 v0 := Tryz.zeroValue0
 t3 := Tryz.underlying3
 a3 := Tryz.isAgg3
 z3 := Tryz.sizeOf3
 v3 := Tryz.zeroValue3
 t4 := Tryz.underlying4
 a4 := Tryz.isAgg4
 z4 := Tryz.sizeOf4
 v4 := Tryz.zeroValue4
 t5 := Tryz.underlying5
 a5 := Tryz.isAgg5
 z5 := Tryz.sizeOf5
 v5 := Tryz.zeroValue5
 t9 := Tryz.underlying9
 a9 := Tryz.isAgg9
 z9 := Tryz.sizeOf9
 v9 := Tryz.zeroValue9
 t26 := Tryz.underlying81
 a26 := Tryz.isAgg81
 z26 := Tryz.sizeOf81
 v26 := Tryz.zeroValue81
 t27 := Tryz.underlying81
 a27 := Tryz.isAgg81
 z27 := Tryz.sizeOf81
 v27 := Tryz.zeroValue81
 t29 := Tryz.underlying9
 a29 := Tryz.isAgg9
 z29 := Tryz.sizeOf9
 v29 := Tryz.zeroValue9
 t32 := Tryz.underlying210
 a32 := Tryz.isAgg210
 z32 := Tryz.sizeOf210
 v32 := Tryz.zeroValue210
 t35 := Tryz.underlying231
 a35 := Tryz.isAgg231
 z35 := Tryz.sizeOf231
 v35 := Tryz.zeroValue231
 t36 := Tryz.underlying232
 a36 := Tryz.isAgg232
 z36 := Tryz.sizeOf232
 v36 := Tryz.zeroValue232
 t41 := Tryz.underlying130
 a41 := Tryz.isAgg130
 z41 := Tryz.sizeOf130
 v41 := Tryz.zeroValue130
 t44 := Tryz.underlying238
 a44 := Tryz.isAgg238
 z44 := Tryz.sizeOf238
 v44 := Tryz.zeroValue238
 t46 := Tryz.underlying219
 a46 := Tryz.isAgg219
 z46 := Tryz.sizeOf219
 v46 := Tryz.zeroValue219
 t53 := Tryz.underlying252
 a53 := Tryz.isAgg252
 z53 := Tryz.sizeOf252
 v53 := Tryz.zeroValue252
 t57 := Tryz.underlying256
 a57 := Tryz.isAgg256
 z57 := Tryz.sizeOf256
 v57 := Tryz.zeroValue256
 t63 := Tryz.underlying260
 a63 := Tryz.isAgg260
 z63 := Tryz.sizeOf260
 v63 := Tryz.zeroValue260
 t64 := Tryz.underlying261
 a64 := Tryz.isAgg261
 z64 := Tryz.sizeOf261
 v64 := Tryz.zeroValue261 }
theorem Tryz.sorts124 (m : Nat) : AnyZ.SortsIn Tryz.prog Tryz.sorted124_ren Fence.wide m :=
  ⟨fun blk off cap ss W hH hblk hsz => callsIn_wide.2 (AnyM.slices_Sort_string Tryz.sort151 blk off cap ss W hH hblk hsz),
   fun p cap W => callsIn_wide.2 (AnyM.slices_Sort_string_none Tryz.sort151 p cap W)⟩
theorem Tryz.maps_Keys_125 (mb : Option Nat) (W : World) : CallsIn Fence.wide 5 Tryz.prog 119 #[.map mb] W fun e w' => e = .returned (.func (.func 161) #[] #[.pointer (some ⟨W.heap.size, 0, none⟩)]) ∧ w' = W.alloc (.cells #[.map mb] 124) :=
 AnyZ.keys_in Tryz.keys125 Fence.wide 5 trivial rfl mb W
set_option maxHeartbeats 1000000 in
theorem Tryz.slices_Sorted_keys_124_125 {H : Type} (b nn : Nat) (D0 : DataW H) (R : Value → Option (DataW H × List MemPlace)) (w : World) (hown : w.ownsMap Tryz.prog 9 R b nn D0) (hmax : Maps.size D0 ≤ maxLen) (hbytes : Maps.size D0 * 16 ≤ 140737488355328) :
  CallsIn Fence.wide 5 Tryz.prog 118 #[.func (.func 161) #[] #[.pointer (some ⟨w.heap.size, 0, none⟩)]] (w.alloc (.cells #[.map (some b)] 124)) fun e w' => ∃ (v : Value) (ss : List (List UInt8)), e = .returned v ∧ ss.Perm (strKeys D0) ∧
   w'.ownsRow (w.alloc (.cells #[.map (some b)] 124)).heap.size 9 1 v ss.length ((ss.mergeSort (fun x y => decide (x ≤ y))).map encStr) ∧ (v = .slice none 0 0 ↔ ss = []) ∧ Below (w.alloc (.cells #[.map (some b)] 124)).heap.size (w.alloc (.cells #[.map (some b)] 124)) w' := by
 have hbl := hown.lt
 have hseq : SeqGives Fence.wide 2 Tryz.prog 161 #[.pointer (some ⟨w.heap.size, 0, none⟩)] encStr (fun ss => ss.Perm (strKeys D0)) (Maps.size D0) (w.alloc (.cells #[.map (some b)] 124)) :=
  AnyZ.keys_gives (ρ := Tryz.keys125_ren) { Tryz.keys125 with } Fence.wide _ trivial rfl (by omega) w.heap.size b nn D0 _ (by simp) (by simp) (by
   obtain ⟨es, clock, hb, Ft, hs, hD⟩ := hown
   exact ⟨es, clock, (Below.heap_alloc _ _ b hbl).trans hb, Ft, hs, hD⟩)
 exact AnyZ.sorted_in Tryz.sorted124 Fence.wide 5 trivial trivial trivial trivial rfl (by omega) (Tryz.sorts124 _) (enters_of Tryz.func157 (by kernel_rfl) rfl) 161 #[.pointer (some ⟨w.heap.size, 0, none⟩)] trivial (enters_of Tryz.func161 (by kernel_rfl) rfl) _ _ hmax hbytes _ hseq
set_option maxHeartbeats 1000000 in
theorem Tryz.set_list {H : Type} (b nn : Nat) (D0 : DataW H) (R : Value → Option (DataW H × List MemPlace)) (w : World) (hown : w.ownsMap Tryz.prog 9 R b nn D0) (hmax : Maps.size D0 ≤ maxLen) (hbytes : Maps.size D0 * 16 ≤ 140737488355328) :
  Calls Tryz.prog 76 #[.map (some b)] w fun e w' => ∃ (v : Value) (ss : List (List UInt8)), e = .returned v ∧ ss.Perm (strKeys D0) ∧
   w'.ownsRow w.heap.size 9 1 v ss.length ((ss.mergeSort (fun x y => decide (x ≤ y))).map encStr) ∧ (v = .slice none 0 0 ↔ ss = []) ∧ Below w.heap.size w w' := by
 refine (callsIn_wide (n := 6)).1 ?_
 have hfK : Fence.wide.fn 119 := trivial
 have hfS : Fence.wide.fn 118 := trivial
 refine callsIn_of_wp Tryz.func76 rfl trivial ?_ rfl
 simp only [Tryz.ntmps76, List.size_toArray, List.length_cons, List.length_nil, Nat.reduceAdd, Nat.reduceSub, Array.replicate_succ, Array.replicate_zero, List.push_toArray, List.append_toArray, List.nil_append, List.cons_append]
 gi_wp2_with (first
  | (gi_at_call 119; refine (Tryz.maps_Keys_125 _ _).mono ?_; rintro e w' ⟨rfl, rfl⟩)
  | (gi_at_call 118; refine (Tryz.slices_Sorted_keys_124_125 b nn D0 R w hown hmax hbytes).mono ?_; rintro e w' ⟨v, ss, rfl, hS, hrow, hnil, hb⟩))
 go_ret
 exact ⟨v, ss, rfl, hS, ownsRow_base_a hrow (by simp), hnil, ((Below.refl _ w).alloc (Nat.le_refl _) _).trans (hb.mono (by simp))⟩
end Go.Proofs
namespace Go.Abs.M
open Go Go.Abs Go.Proofs
variable [Mode]
set_option maxRecDepth 20000
def noVal : Val := ⟨0, 0, ⟨#[]⟩⟩
def getV (s : ByteArray) : List Attr → Val × Bool
  | [] => (noVal, false)
  | a :: l => if eqS a.name s then (a.v, true) else getV s l
def opVal (o : Opd) (e : Ev) : Val := if o.attr.size = 0 then o.v else (getV o.attr e.attrs).1
def testB (e : Ev) (c : Cnd) : Bool := holdsV c.rel (opVal c.l e) (opVal c.r e)
def termB (n : Nd) (e : Ev) : Bool := decide (n.kind = 1) && eqS e.type n.type && n.tests.all (testB e)
def cmpBd (a b : Bd) : Int := orI [cmpS a.var b.var, cmpId (idOf a) (idOf b)]
def cmpL : List Bd → List Bd → Int
  | [], [] => 0
  | [], _ :: _ => -1
  | _ :: _, [] => 1
  | a :: l, b :: r => if cmpBd a b ≠ 0 then cmpBd a b else cmpL l r
def noBd : Bd := ⟨⟨#[]⟩, ⟨0, 0, 0, ⟨#[]⟩, []⟩⟩
def sameId (a b : Bd) : Bool := a.ev.src == b.ev.src && a.ev.seq == b.ev.seq
def apartAt (l : List Bd) (i : Nat) : Bool := (List.range i).all fun j => !sameId (l.getD i noBd) (l.getD j noBd)
def apartB (l : List Bd) : Bool := (List.range l.length).all (apartAt l)
def ofB (l : List Bd) (vars : List ByteArray) : List Bd := l.filter fun b => hasS vars b.var
def inI64 (n : Int) : Prop := -9223372036854775808 ≤ n ∧ n ≤ 9223372036854775807
def leafFits (n : Nd) : List Bd → Bool
  | [b] => eqS b.var n.var && termB n b.ev
  | _ => false
def kidsFit (two : Bool) (p : List Bd) : Option (List Bd) → Nat → List ((List Bd → Bool) × List ByteArray) → Option Nat
  | _, s, [] => some s
  | prev, s, (f, vs) :: r => if f (ofB p vs) = false then none else if two && prev.any (fun x => decide (beginOf (ofB p vs) ≤ endOf x)) then none else kidsFit two p (some (ofB p vs)) (s + (ofB p vs).length) r
def allFit (p : List Bd) : Option Nat → Bool
  | some s => s == p.length && apartB p
  | none => false
def fitsF (n : Nd) (l : List (List Bd → Bool)) (p : List Bd) : Bool :=
  if n.kind = 1 then leafFits n p else if n.kind = 4 then l.any (fun f => f p) else allFit p (kidsFit (decide (n.kind = 2)) p none 0 (l.zip (n.kids.map Nd.vars)))
def Nd.fits (n : Nd) : List Bd → Bool := n.para fitsF
end Go.Abs.M
namespace Go.Abs.M
open Go Go.Abs Go.Proofs
variable [Mode]
structure Tri {α : Type} (c : α → α → Int) : Prop where
  flip : ∀ a b, c b a = - c a b
  trans : ∀ a b d, c a b ≤ 0 → c b d ≤ 0 → c a d ≤ 0
  small : ∀ a b, -1 ≤ c a b ∧ c a b ≤ 1
namespace Tri
variable {α β : Type} {c c' : α → α → Int}
theorem refl (h : Tri c) (a : α) : c a a = 0 := by have := h.flip a a; omega
theorem lt_le (h : Tri c) {a b d : α} (h1 : c a b < 0) (h2 : c b d ≤ 0) : c a d < 0 := by
 by_cases k : c a d < 0
 ·exact k
 ·have e := h.flip a d
  have := h.trans b d a h2 (by omega)
  have e2 := h.flip a b
  omega
theorem le_lt (h : Tri c) {a b d : α} (h1 : c a b ≤ 0) (h2 : c b d < 0) : c a d < 0 := by
 by_cases k : c a d < 0
 ·exact k
 ·have e := h.flip a d
  have := h.trans d a b (by omega) h1
  have e2 := h.flip b d
  omega
theorem lex (h : Tri c) (h' : Tri c') : Tri (fun a b => if c a b ≠ 0 then c a b else c' a b) := by
 refine ⟨fun a b => ?_, fun a b d h1 h2 => ?_, fun a b => ?_⟩
 ·have e := h.flip a b
  have e' := h'.flip a b
  split <;> split <;> omega
 ·
  have k1 : c a b ≤ 0 := by split at h1 <;> omega
  have k2 : c b d ≤ 0 := by split at h2 <;> omega
  have k3 := h.trans a b d k1 k2
  split
  ·exact k3
  ·rename_i e
   have e : c a d = 0 := by omega
   have z1 : c a b = 0 := by
    by_cases k : c a b = 0
    ·exact k
    ·have := h.lt_le (a := a) (b := b) (d := d) (by omega) k2; omega
   have z2 : c b d = 0 := by
    by_cases k : c b d = 0
    ·exact k
    ·have := h.le_lt (a := a) (b := b) (d := d) k1 (by omega); omega
   rw [if_neg (by simp [z1])] at h1
   rw [if_neg (by simp [z2])] at h2
   exact h'.trans a b d h1 h2
 ·have e := h.small a b
  have e' := h'.small a b
  split <;> omega
theorem on (h : Tri c) (f : β → α) : Tri (fun a b => c (f a) (f b)) := ⟨fun a b => h.flip _ _, fun a b d => h.trans _ _ _, fun a b => h.small _ _⟩
end Tri
theorem tri_I : Tri cmpI := by
 refine ⟨fun a b => ?_, fun a b d => ?_, fun a b => ?_⟩ <;> simp only [cmpI] <;> repeat' split <;> omega
theorem cmpS_cases (a b : ByteArray) : (cmpS a b = -1 ∧ a.toList < b.toList) ∨ (cmpS a b = 0 ∧ a.toList = b.toList) ∨ (cmpS a b = 1 ∧ b.toList < a.toList) := by
 unfold cmpS
 rw [bytesLess_eq']
 by_cases h : a.toList < b.toList
 ·simp [h]
 ·by_cases e : a.toList = b.toList
  ·simp [e, List.lt_irrefl]
  ·have : b.toList < a.toList := by
    rcases List.le_iff_lt_or_eq.1 (show b.toList ≤ a.toList from h) with h1 | h1
    ·exact h1
    ·exact absurd h1.symm e
   simp [h, e, this]
theorem tri_S : Tri cmpS := by
 refine ⟨fun a b => ?_, fun a b d h1 h2 => ?_, fun a b => ?_⟩
 ·rcases cmpS_cases a b with ⟨h1, h2⟩ | ⟨h1, h2⟩ | ⟨h1, h2⟩ <;> rcases cmpS_cases b a with ⟨k1, k2⟩ | ⟨k1, k2⟩ | ⟨k1, k2⟩ <;> rw [h1, k1] <;>
   first
    | omega
    | exact absurd k2 (List.lt_asymm h2)
    | exact absurd k2 (by rw [h2]; exact List.lt_irrefl _)
    | exact absurd h2 (by rw [k2]; exact List.lt_irrefl _)
 ·rcases cmpS_cases a d with ⟨k1, _⟩ | ⟨k1, _⟩ | ⟨_, k2⟩
  ·omega
  ·omega
  ·exfalso
   have e1 : ¬ b.toList < a.toList := fun hh => by
    rcases cmpS_cases a b with ⟨_, h⟩ | ⟨_, h⟩ | ⟨h, _⟩
    ·exact List.lt_asymm h hh
    ·rw [h] at hh; exact List.lt_irrefl _ hh
    ·omega
   have e2 : ¬ d.toList < b.toList := fun hh => by
    rcases cmpS_cases b d with ⟨_, h⟩ | ⟨_, h⟩ | ⟨h, _⟩
    ·exact List.lt_asymm h hh
    ·rw [h] at hh; exact List.lt_irrefl _ hh
    ·omega
   exact List.le_trans (show a.toList ≤ b.toList from e1) (show b.toList ≤ d.toList from e2) k2
 ·rcases cmpS_cases a b with ⟨h, _⟩ | ⟨h, _⟩ | ⟨h, _⟩ <;> omega
theorem orI2 (x y : Int) : orI [x, y] = if x ≠ 0 then x else y := by
 simp only [orI]
 split
 ·rfl
 ·split
  ·rfl
  ·omega
theorem tri_Id : Tri cmpId := by
 have : cmpId = fun a b : Int × Int => if cmpI a.1 b.1 ≠ 0 then cmpI a.1 b.1 else cmpI a.2 b.2 := by funext a b; exact orI2 _ _
 rw [this]
 exact (tri_I.on Prod.fst).lex (tri_I.on Prod.snd)
theorem tri_Bd : Tri cmpBd := by
 have : cmpBd = fun a b : Bd => if cmpS a.var b.var ≠ 0 then cmpS a.var b.var else cmpId (idOf a) (idOf b) := by funext a b; exact orI2 _ _
 rw [this]
 exact (tri_S.on Bd.var).lex (tri_Id.on idOf)
theorem tri_L : Tri cmpL := by
  have fl : ∀ a b, cmpL b a = - cmpL a b := by
    intro a
    induction a with
    | nil => intro b; cases b <;> rfl
    | cons x l ih =>
      intro b
      cases b with
      | nil => rfl
      | cons y r =>
        have e := tri_Bd.flip x y
        have := ih r
        simp only [cmpL]
        split <;> split <;> omega
  refine ⟨fl, ?_, ?_⟩
  · intro a
    induction a with
    | nil => intro b d _ _; cases d <;> simp [cmpL]
    | cons x l ih =>
      intro b d h1 h2
      cases b with
      | nil => simp [cmpL] at h1
      | cons y r =>
        cases d with
        | nil => simp [cmpL] at h2
        | cons z q =>
          simp only [cmpL] at h1 h2 ⊢
          have k1 : cmpBd x y ≤ 0 := by split at h1 <;> omega
          have k2 : cmpBd y z ≤ 0 := by split at h2 <;> omega
          have k3 := tri_Bd.trans x y z k1 k2
          split
          · exact k3
          · have z1 : cmpBd x y = 0 := by
              by_cases k : cmpBd x y = 0
              · exact k
              · have := tri_Bd.lt_le (a := x) (b := y) (d := z) (by omega) k2; omega
            have z2 : cmpBd y z = 0 := by
              by_cases k : cmpBd y z = 0
              · exact k
              · have := tri_Bd.le_lt (a := x) (b := y) (d := z) k1 (by omega); omega
            rw [if_neg (by simp [z1])] at h1
            rw [if_neg (by simp [z2])] at h2
            exact ih r q h1 h2
  · intro a
    induction a with
    | nil => intro b; cases b <;> simp [cmpL]
    | cons x l ih =>
      intro b
      cases b with
      | nil => simp [cmpL]
      | cons y r =>
        have e := tri_Bd.small x y
        have := ih r
        simp only [cmpL]
        split <;> omega
def SrtL (rows : List (List Bd)) : Prop := rows.Pairwise (fun a b => cmpL a b < 0)
structure AtL (rows : List (List Bd)) (x : List Bd) (i : Nat) : Prop where
  lt : ∀ j y, rows[j]? = some y → j < i → cmpL y x < 0
  ge : ∀ j y, rows[j]? = some y → i ≤ j → 0 ≤ cmpL y x
def hasL (rows : List (List Bd)) (x : List Bd) : Bool := rows.any (fun y => cmpL y x == 0)
def insL' (rows : List (List Bd)) (x : List Bd) : List (List Bd) := rows.takeWhile (fun y => decide (cmpL y x < 0)) ++ x :: rows.dropWhile (fun y => decide (cmpL y x < 0))
theorem takeWhile_at {α : Type} {p : α → Bool} : ∀ {l : List α} {i : Nat}, i ≤ l.length → (∀ j y, l[j]? = some y → j < i → p y = true) → (∀ j y, l[j]? = some y → i ≤ j → p y = false) → l.takeWhile p = l.take i ∧ l.dropWhile p = l.drop i
  | [], i, _, _, _ => by simp
  | a :: l, 0, _, _, h2 => by
    have := h2 0 a rfl (Nat.le_refl _)
    simp [this]
  | a :: l, i + 1, hi, h1, h2 => by
    have ha := h1 0 a rfl (by omega)
    obtain ⟨e1, e2⟩ := takeWhile_at (p := p) (l := l) (i := i) (by simpa using hi) (fun j y hy hj => h1 (j + 1) y (by simpa using hy) (by omega)) (fun j y hy hj => h2 (j + 1) y (by simpa using hy) (by omega))
    simp [ha, e1, e2]
theorem AtL.ins {rows : List (List Bd)} {x : List Bd} {i : Nat} (h : AtL rows x i) (hi : i ≤ rows.length) : insL' rows x = rows.take i ++ x :: rows.drop i := by
 obtain ⟨e1, e2⟩ := takeWhile_at (p := fun y => decide (cmpL y x < 0)) hi (fun j y hy hj => by simpa using h.lt j y hy hj) (fun j y hy hj => by have := h.ge j y hy hj; simp; omega)
 rw [insL', e1, e2]
theorem SrtL.ins {rows : List (List Bd)} {x : List Bd} {i : Nat} (hs : SrtL rows) (h : AtL rows x i) (hn : hasL rows x = false) : SrtL (rows.take i ++ x :: rows.drop i) := by
 have low : ∀ y ∈ rows.take i, cmpL y x < 0 := fun y hy => by
  obtain ⟨j, hj⟩ := List.getElem?_of_mem hy
  rw [List.getElem?_take] at hj
  split at hj
  ·rename_i hji; exact h.lt j y hj hji
  ·cases hj
 have high : ∀ y ∈ rows.drop i, cmpL x y < 0 := fun y hy => by
  obtain ⟨j, hj⟩ := List.getElem?_of_mem hy
  rw [List.getElem?_drop] at hj
  have k := h.ge _ y hj (by omega)
  have k2 : cmpL y x ≠ 0 := fun e => by
   have : hasL rows x = true := List.any_eq_true.2 ⟨y, List.mem_of_getElem? hj, by simp [e]⟩
   rw [hn] at this; cases this
  have := tri_L.flip y x
  omega
 have hs2 : SrtL (rows.take i ++ rows.drop i) := by rw [List.take_append_drop]; exact hs
 obtain ⟨s1, s2, s3⟩ := List.pairwise_append.1 hs2
 refine List.pairwise_append.2 ⟨s1, List.pairwise_cons.2 ⟨high, s2⟩, fun a ha b hb => ?_⟩
 rcases List.mem_cons.1 hb with rfl | hb
 ·exact low a ha
 ·exact s3 a ha b hb
theorem SrtL.at {rows : List (List Bd)} (hs : SrtL rows) (x : List Bd) : AtL rows x (rows.takeWhile (fun y => decide (cmpL y x < 0))).length := by
  induction rows with
  | nil => exact ⟨fun j y h => by simp at h, fun j y h => by simp at h⟩
  | cons a l ih =>
    obtain ⟨h1, h2⟩ := List.pairwise_cons.1 hs
    by_cases ha : cmpL a x < 0
    · have ih := ih h2
      rw [List.takeWhile_cons_of_pos (by simpa using ha), List.length_cons]
      refine ⟨fun j y hy hj => ?_, fun j y hy hj => ?_⟩
      · cases j with
        | zero => simp at hy; subst hy; exact ha
        | succ j => exact ih.lt j y (by simpa using hy) (by omega)
      · cases j with
        | zero => omega
        | succ j => exact ih.ge j y (by simpa using hy) (by omega)
    · rw [List.takeWhile_cons_of_neg (by simpa using ha)]
      refine ⟨fun j y hy hj => by simp at hj, fun j y hy hj => ?_⟩
      cases j with
      | zero => simp at hy; subst hy; omega
      | succ j =>
        have hm := h1 y (List.mem_of_getElem? (by simpa using hy))
        by_cases k : 0 ≤ cmpL y x
        · exact k
        · have := tri_L.lt_le hm (by omega : cmpL y x ≤ 0); omega
end Go.Abs.M
namespace Go.Abs.M
open Go Go.Abs Go.Proofs
variable [Mode]
theorem putS_mem (l : List ByteArray) (s v : ByteArray) : v ∈ putS l s ↔ v = s ∨ v ∈ l := by
 unfold putS
 split
 ·rename_i h
  have := hasS_iff.1 h
  exact ⟨.inr, fun h => h.elim (fun e => e ▸ this) id⟩
 ·rw [List.mem_append, List.mem_cons]
  have := List.takeWhile_append_dropWhile (p := (ltS · s)) (l := l)
  conv => rhs; rw [← this, List.mem_append]
  constructor
  ·rintro (h | h | h)
   ·exact .inr (.inl h)
   ·exact .inl h
   ·exact .inr (.inr h)
  ·rintro (h | h | h)
   ·exact .inr (.inl h)
   ·exact .inl h
   ·exact .inr (.inr h)
theorem putAll_mem (kv : List ByteArray) : ∀ (acc : List ByteArray) (v : ByteArray), v ∈ putAll acc kv ↔ v ∈ acc ∨ v ∈ kv := by
  induction kv with
  | nil => intro acc v; simp [putAll]
  | cons s kv ih =>
    intro acc v
    have := ih (putS acc s) v
    simp only [putAll, List.foldl_cons] at this ⊢
    rw [this, putS_mem, List.mem_cons]
    constructor
    · rintro ((h | h) | h)
      · exact .inr (.inl h)
      · exact .inl h
      · exact .inr (.inr h)
    · rintro (h | h | h)
      · exact .inl (.inr h)
      · exact .inl (.inl h)
      · exact .inr h
theorem foldAll_mem (l : List (List ByteArray)) : ∀ (acc : List ByteArray) (v : ByteArray), v ∈ l.foldl putAll acc ↔ v ∈ acc ∨ ∃ k ∈ l, v ∈ k := by
  induction l with
  | nil => intro acc v; simp
  | cons s l ih =>
    intro acc v
    rw [List.foldl_cons, ih, putAll_mem]
    constructor
    · rintro ((h | h) | ⟨k, hk, h⟩)
      · exact .inl h
      · exact .inr ⟨s, List.mem_cons_self, h⟩
      · exact .inr ⟨k, List.mem_cons_of_mem _ hk, h⟩
    · rintro (h | ⟨k, hk, h⟩)
      · exact .inl (.inl h)
      · rcases List.mem_cons.1 hk with rfl | hk
        · exact .inl (.inr h)
        · exact .inr ⟨k, hk, h⟩
theorem Nd.vars_mem (n : Nd) (v : ByteArray) : v ∈ n.vars ↔ (n.var.size ≠ 0 ∧ v = n.var) ∨ ∃ x ∈ n.kids, v ∈ x.vars := by
 rw [Nd.vars_eq, varsOf, foldAll_mem]
 refine or_congr ?_ ?_
 ·split
  ·rename_i h; simp [h]
  ·rename_i h; rw [putS_mem]; simp [h]
 ·simp only [List.mem_map]
  constructor
  ·rintro ⟨k, ⟨x, hx, rfl⟩, h⟩; exact ⟨x, hx, h⟩
  ·rintro ⟨x, hx, h⟩; exact ⟨_, ⟨x, hx, rfl⟩, h⟩
structure Nd.fine (n : Nd) : Prop where
  err : n.err = 0
  binds : n.binds = 0
theorem firstErr_zero : ∀ {l : List Int}, firstErr l = 0 → ∀ e ∈ l, e = 0
  | [], _, e, h => by cases h
  | x :: l, hz, e, h => by
    rw [firstErr] at hz
    split at hz
    · rename_i hx
      rcases List.mem_cons.1 h with rfl | h
      · exact hx
      · exact firstErr_zero hz e h
    · rename_i hx; exact absurd hz hx
theorem Nd.err_own {n : Nd} (h : n.err = 0) : ndOwn n = 0 := by
 rw [Nd.err_eq] at h
 split at h
 ·assumption
 ·exact h
theorem Nd.err_kid {n x : Nd} (h : n.err = 0) (hx : x ∈ n.kids) : x.err = 0 := by
 have h0 := Nd.err_own h
 rw [Nd.err_eq, if_pos h0] at h
 exact firstErr_zero h _ (List.mem_map_of_mem hx)
theorem bindsFrom_zero {k : Bool} : ∀ {l : List (Int × List ByteArray)} {seen : List (List ByteArray)}, bindsFrom k seen l = 0 →
    (∀ x ∈ l, x.1 = 0) ∧ (k = true → (∀ x ∈ l, ∀ o ∈ seen, meets x.2 o = false) ∧ l.Pairwise fun x y => meets y.2 x.2 = false)
  | [], seen, _ => ⟨fun x h => (by cases h), fun _ => ⟨fun x h => (by cases h), .nil⟩⟩
  | (e, kv) :: r, seen, h => by
    rw [bindsFrom] at h
    split at h
    · rename_i he
      split at h
      · cases h
      · rename_i hm
        obtain ⟨h1, h2⟩ := bindsFrom_zero h
        refine ⟨fun x hx => ?_, fun hk => ?_⟩
        · rcases List.mem_cons.1 hx with rfl | hx
          · exact he
          · exact h1 x hx
        · obtain ⟨h3, h4⟩ := h2 hk
          have hm : ∀ o ∈ seen, meets kv o = false := fun o ho => by
            cases hh : meets kv o
            · rfl
            · exact absurd (by rw [hk, Bool.true_and]; exact List.any_eq_true.2 ⟨o, ho, hh⟩) hm
          refine ⟨fun x hx o ho => ?_, List.pairwise_cons.2 ⟨fun y hy => h3 y hy kv (by simp), h4⟩⟩
          rcases List.mem_cons.1 hx with rfl | hx
          · exact hm o ho
          · exact h3 x hx o (List.mem_append_left _ ho)
    · rename_i he; exact absurd h he
theorem Nd.binds_kid {n x : Nd} (h : n.binds = 0) (hx : x ∈ n.kids) : x.binds = 0 := by
 rw [Nd.binds_eq] at h
 exact (bindsFrom_zero h).1 _ (List.mem_map_of_mem hx)
def Apart (ks : List Nd) : Prop := ks.Pairwise fun x y => ∀ v ∈ y.vars, v ∉ x.vars
theorem Nd.fine.kid {n x : Nd} (h : n.fine) (hx : x ∈ n.kids) : x.fine := ⟨Nd.err_kid h.err hx, Nd.binds_kid h.binds hx⟩
theorem Nd.fine.join {n : Nd} (h : n.fine) (hk : n.kind ≠ 1) : (n.kind = 2 ∨ n.kind = 3 ∨ n.kind = 4) ∧ 2 ≤ n.kids.length ∧ n.var.size = 0 := by
 have h0 := Nd.err_own h.err
 rw [ndOwn, if_neg hk] at h0
 split at h0
 ·rename_i hkk
  split at h0
  ·cases h0
  ·rename_i hb
   simp only [joinBad, Bool.or_eq_true, not_or, decide_eq_true_eq, Decidable.not_not] at hb
   exact ⟨hkk, by omega, by omega⟩
 ·cases h0
end Go.Abs.M
namespace Go.Abs.M
open Go Go.Abs Go.Proofs
instance lax : Mode := ⟨False⟩
def bytesOf (x : List UInt8) : ByteArray := ⟨x.toArray⟩
def sortN (names : List ByteArray) : List ByteArray := ((names.map fun s => s.data.toList).mergeSort fun x y => decide (x ≤ y)).map bytesOf
theorem sortN_len (names : List ByteArray) : (sortN names).length = names.length := by
 simp [sortN, List.length_mergeSort]
theorem VRs_strings {w : World} {cx : Cx} : ∀ l : List ByteArray, VRs w cx (l.map encS).flatten (l.map Value.string)
  | [] => .nil
  | s :: l => by
    have := VRs_strings (w := w) (cx := cx) l
    rw [List.map_cons, List.flatten_cons, List.map_cons]
    exact VRs.cons rfl (.c _) this
theorem list_spec {g : Nat} {names : List ByteArray} {σ : Hp} (hg : σ.obj g = some [.tup (entS names)]) (hn : names.Nodup) (hs : ∀ s ∈ names, s.size ≤ maxLen) (hl : names.length ≤ 1048576) :
  ACalls Tryz.prog 76 [.c (.map (some g))] σ (fun v σ' => σ' = σ ∧ v = .sl ((sortN names).map encS)) := by
 refine ⟨Tryz.call76, fun cx w xs hH ha => ?_⟩
 have hx : xs = [.map (some g)] := ha.consts (vs := [.map (some g)])
 subst hx
 obtain ⟨D, hown, hsz, hperm⟩ := ownsMap_of (P := Tryz.prog) (kt := 9) (et := 4) Tryz.underlying9 Tryz.underlying4 hn hs (by unfold maxLen; omega) (hH.obj g _ hg)
 refine (Tryz.set_list g names.length D _ w hown (by rw [hsz]; unfold maxLen; omega) (by rw [hsz]; omega)).mono fun e w' ⟨v, ss, he, hS, hrow, hnil, hb⟩ => ?_
 have hms : ss.mergeSort (fun x y => decide (x ≤ y)) = (names.map fun s => s.data.toList).mergeSort fun x y => decide (x ≤ y) := mergeSort_of_perm (hS.trans hperm)
 have hrl : (ss.mergeSort (fun x y => decide (x ≤ y))).map encStr = (sortN names).map Value.string := by
  rw [hms, sortN, List.map_map]; rfl
 rw [hrl] at hrow
 have hlen : ss.length = (sortN names).length := by rw [sortN_len, hS.length_eq, hperm.length_eq, List.length_map]
 have hext : ∀ cx' : Cx, cx.le cx' → (∀ g', cx'.I g' → cx.I g' ∨ (w.heap.size ≤ g' ∧ g' < w'.heap.size)) → Left cx σ w cx' σ w' := fun cx' hle hI =>
  ⟨hH.new hle hI hb.size (fun g' hg' => hb.block g' hg'), ⟨hb.os, hb.tape, ⟨hb.output, fun h => h.elim⟩, hb.size, fun g' hg' _ => hb.block g' hg', hle, fun g' hi => (hI g' hi).imp id (fun h => .inr h.1), fun g' ho => .inl (own_keep hH hle ho)⟩, fun k x hk => .inl ⟨x, hk⟩, fun g' x hx => .inl ⟨x, hx⟩⟩
 rcases hrow.2 with ⟨hv, h0⟩ | ⟨b, cap, cur, hv, hbase, hbl, hcap, hmx, hcs, htk⟩
 ·have h1 : sortN names = [] := List.eq_nil_of_length_eq_zero (by omega)
  refine ⟨_, v, cx, σ, he, ?_, hext cx (.refl _) (fun _ h => .inl h), rfl, rfl⟩
  rw [h1, hv]; exact .nils
 ·refine ⟨_, v, cx.addI b, σ, he, ?_, hext (cx.addI b) (cx.le_addI b) (fun g' h => h.imp id (fun e => by subst e; exact ⟨hbase, lt_of_block hbl⟩)), rfl, rfl⟩
  have hl2 : ((sortN names).map encS).length = ss.length := by rw [List.length_map, hlen]
  rw [hv, ← hl2]
  refine VR.sl_of_row (sz := 1) (xs := (sortN names).map Value.string) (.inr rfl) (by rw [hl2]; exact hcap) (fun e he => by
   obtain ⟨s, _, rfl⟩ := List.mem_map.1 he; rfl) (VRs_strings _) (fun j x hj => ?_)
  have : (cur.toList.take (ss.length * 1))[j]? = some x := by rw [htk]; exact hj
  rw [List.getElem?_take] at this
  split at this
  ·simp only [World.cell?, hbl, Nat.zero_add, Option.isSome_none, Bool.false_eq_true, if_false]
   rw [← Array.getElem?_toList]; exact this
  ·cases this
end Go.Abs.M
namespace Go.Abs.M
open Go Go.Abs Go.Proofs
variable [Mode]
set_option maxRecDepth 20000
def ptrV (g : Nat) : V := .c (.pointer (some ⟨g, 0, none⟩))
end Go.Abs.M
namespace Go.Abs.M
open Go Go.Abs Go.Proofs
set_option maxRecDepth 20000
def addsF (n : Nd) (fs : List (List ByteArray → List ByteArray)) (acc : List ByteArray) : List ByteArray := fs.foldl (fun a f => f a) (if n.var.size = 0 then acc else addN acc n.var)
def Nd.adds (n : Nd) : List ByteArray → List ByteArray := n.para addsF
theorem Nd.adds_eq (n : Nd) (acc : List ByteArray) : n.adds acc = (n.kids.map Nd.adds).foldl (fun a f => f a) (if n.var.size = 0 then acc else addN acc n.var) := by
 have h : n.adds = addsF n (n.kids.map Nd.adds) := Nd.para_eq _ n
 rw [h]; rfl
def hpN (σ0 : Hp) (gm : Nat) (names : List ByteArray) : Hp := σ0.setObj gm (some [.tup (entS names)])
theorem ok125 : okT Tryz.prog 125 = true := by kernel_rfl
theorem sz125 : szT Tryz.prog 125 = 1 := by kernel_rfl
theorem ag125 : aggT Tryz.prog 125 = false := by kernel_rfl
theorem isMap_c (x : Value) : isMap [.c x] = false := rfl
theorem isMap_fn (f : Fn) (a b : List V) : isMap [.fn f a b] = false := rfl
theorem adds_spec {σ0 : Hp} {g3 g4 gm : Nat} (hQ3 : σ0.obj g3 = some [.c (.map (some gm))]) (hQ4 : σ0.obj g4 = some [.fn (.func 75) [] [ptrV g3, ptrV g4]]) (n3 : ¬ g3 = gm) (n4 : ¬ g4 = gm) : ∀ n : Nd, n.small → ∀ names : List ByteArray, ACalls Tryz.prog 75 [.agg (encNd n), ptrV g3, ptrV g4] (hpN σ0 gm names) (fun v σ' => v = .tup [] ∧ σ' = hpN σ0 gm (n.adds names)) := Nd.ind fun n ih hn names => by
 have hl := hn.len
 have hE := (encNd_eq n).symm
 have hae := n.adds_eq names
 rw [encNd_eq]
 refine ACalls.intro Tryz.call75 Tryz.func75 rfl Tryz.ntmps75 Tryz.results75 (by simp) ?_
 refine AW.sr @ptrV.eq_1 ?_
 refine AW.seq_j (fun s' σ' => σ' = hpN σ0 gm (if n.var.size = 0 then names else addN names n.var) ∧ s'.t 1 = ptrV g3 ∧ s'.t 2 = ptrV g4 ∧ s'.t 3 = .lp 3 0 ∧ s'.l 3 = some [.c (.int .i64 n.kind), .c (.string n.var), .c (.string n.type), .sl (n.tests.map encC), .sl (n.kids.map encNd)]) ?_ ?_
 ·refine AW.sr trivial ?_
  refine AW.cond (b := !decide (n.var.size = 0)) (by simp [ev]) (fun hc => ?_) (fun hc => ?_)
  ·have hc : ¬ n.var.size = 0 := by simpa using hc
   rw [if_neg hc]
   unfold hpN ptrV
   refine AW.reg0 ?_
   iterate 3 refine S.one (J3 hQ3 n3 @isMap_c) ?_
   have q1q := J3 hQ3 n3 @isMap_c
   (refine S.g rfl rfl fun Y Z => ?_; simp only [zn, simprocAttr, -Int.reduceNatCast', -Int.reduceToNat, q1q]; refine ⟨_, _, _, Tryz.underlying124, KeyT.str Tryz.underlying9, rfl, entS_ok _, ?_⟩; (try simp only [tt, ofC, Option.some.injEq, exists_eq_left', zz, simprocAttr, -Int.reduceNatCast', -Int.reduceToNat, hQ3, n3, isMap_c]); refine (congrArg (Y _) (congrArg (fun x => σ0.setObj gm (some [V.tup x])) (entS_upd n.var names))).mpr ?_ <;> (refine Z _ _ ?_; clear Z Y))
   all_goals refine S.nil ?_
   all_goals simp only [ze, simprocAttr, q1q]
   all_goals ((try and_intros) <;> first | rfl | assumption | (rfl))
  ·have hc : n.var.size = 0 := by simpa using hc
   rw [if_pos hc]
   refine AW.skip ?_
   simp only [zs, simprocAttr, ptrV]
   all_goals ((try and_intros) <;> first | rfl | assumption | (rfl))
 rintro s σ ⟨rfl, e1, e2, e3, l3⟩
 generalize hacc0 : (if n.var.size = 0 then names else addN names n.var) = acc0 at *
 all_goals refine AW.sr (J4 e1 e2 e3 l3) ?_
 refine AW.block ?_   -- 0
 refine AW.loop (fun m s σ => ∃ (i : Nat) (acc : List ByteArray), m + i = n.kids.length ∧ σ = hpN σ0 gm acc ∧ n.adds names = ((n.kids.drop i).map Nd.adds).foldl (fun a f => f a) acc ∧ s.t 1 = ptrV g3 ∧ s.t 2 = ptrV g4 ∧ s.t 13 = .sl (n.kids.map encNd) ∧ s.t 14 = .c (.int .i64 (n.kids.length : Nat)) ∧ s.t 15 = .c (.int .i64 (i : Nat))) n.kids.length ?_ ?_
 ·refine ⟨0, acc0, by simp, rfl, by simpa using hae, ?_⟩
  simp only [zs, simprocAttr, e1, e2]
  all_goals ((try and_intros) <;> first | rfl | assumption | (rfl))
 rintro m s σ ⟨i, acc, hm, rfl, hp, e1, e2, e13, e14, e15⟩
 all_goals refine AW.sr (J2 e14 e15) ?_
 refine AW.seq_k fun K5 h5 => ?_
 refine AW.cond (b := decide (i < n.kids.length)) (by simp [ev]) (fun hi => ?_) (fun hi => ?_)
 ·have hi := of_decide_eq_true hi
  obtain ⟨x, hx, hxm, hg⟩ := kid_get hi
  have hw := wadd1 (a := i) (by omega)
  rw [kid_drop hx, List.map_cons, List.foldl_cons] at hp
  refine AW.skip ?_
  simp only [zs, simprocAttr]
  all_goals apply_assumption
  refine AW.seq_k fun K6 h6 => ?_
  refine AW.block ?_   -- 1
  refine AW.sr (J9 e1 e2 e13 e14 e15 hi hg @nd @List.length_map.{0,0}) ?_
  have hF4 : (hpN σ0 gm acc).obj g4 = some [.fn (.func 75) [] [ptrV g3, ptrV g4]] := by simp [hpN, n4]; exact hQ4
  unfold ptrV at e1 e2 hF4
  refine AW.reg0 ?_
  iterate 2 refine S.one (J8 e1 e2 hF4 @isMap_fn @nd @ok125 @sz125 @ag125) ?_
  have q2q := J8 e1 e2 hF4 @isMap_fn @nd @ok125 @sz125 @ag125
  (refine S.g rfl rfl fun Y Z => ?_; simp only [zz, simprocAttr, -Int.reduceNatCast', -Int.reduceToNat, q2q]; (refine ACalls.to (ih x hxm (hn.kid hxm) acc) ?_; rintro _ _ ⟨rfl, rfl⟩) <;> (refine Z _ _ ?_; clear Z Y))
  all_goals (refine S.nil ?_; simp only [ze, simprocAttr, q2q]; apply_assumption)
  all_goals have q3q := J6 e1 e2 e13 e14 e15 hw
  all_goals refine AW.reg0 (S.rn q3q ?_)
  all_goals simp only [ze, simprocAttr, q3q]
  refine ⟨m - 1, by omega, i + 1, x.adds acc, by omega, rfl, hp, ?_⟩
  all_goals ((try and_intros) <;> first | rfl | assumption | (rfl))
 ·have hi := of_decide_eq_false hi
  refine AW.exit ?_
  simp only [zs, simprocAttr]
  rw [List.drop_of_length_le (by omega)] at hp
  have hp : n.adds names = acc := hp
  rw [hp]
  all_goals ((try and_intros) <;> first | rfl | assumption | (rfl))
theorem ltS_iff {a b : ByteArray} : ltS a b = true ↔ a.data.toList < b.data.toList := by
 rw [ltS, bytesLess_eq', decide_eq_true_eq, ByteArray.toList_eq, ByteArray.toList_eq]
def SrtS (l : List ByteArray) : Prop := l.Pairwise fun a b => ltS a b = true
theorem ltS_trans {a b c : ByteArray} (h : ltS a b = true) (k : ltS b c = true) : ltS a c = true := ltS_iff.2 (List.lt_trans (ltS_iff.1 h) (ltS_iff.1 k))
theorem ltS_irr (a : ByteArray) : ltS a a ≠ true := fun h => absurd (ltS_iff.1 h) (List.lt_irrefl _)
theorem ba_ext {a b : ByteArray} (h : a.data.toList = b.data.toList) : a = b := by
 cases a; cases b; exact congrArg _ (Array.toList_inj.1 h)
theorem ltS_tri {a b : ByteArray} (h : ltS a b ≠ true) (hn : a ≠ b) : ltS b a = true := by
 rw [Ne, ltS_iff] at h
 rw [ltS_iff]
 rcases List.le_iff_lt_or_eq.1 (List.not_lt.1 h) with k | k
 ·exact k
 ·exact absurd (ba_ext k.symm) hn
theorem putS_srt {l : List ByteArray} (s : ByteArray) (h : SrtS l) : SrtS (putS l s) := by
  unfold putS
  split
  · exact h
  · rename_i hs
    have hs : s ∉ l := fun h => hs (hasS_iff.2 h)
    have e := List.takeWhile_append_dropWhile (p := (ltS · s)) (l := l)
    have h0 := h
    rw [SrtS, ← e, List.pairwise_append] at h0
    obtain ⟨p1, p2, p3⟩ := h0
    have hlt : ∀ x ∈ l.takeWhile (ltS · s), ltS x s = true := fun x hx => List.all_eq_true.1 (List.all_takeWhile (p := (ltS · s)) (l := l)) x hx
    have hgt : ∀ x ∈ l.dropWhile (ltS · s), ltS s x = true := by
      intro x hx
      cases hd : l.dropWhile (ltS · s) with
      | nil => rw [hd] at hx; cases hx
      | cons y r =>
        have hy : ltS y s ≠ true := by
          have := List.head_dropWhile_not (p := (ltS · s)) (l := l) (by rw [hd]; exact List.cons_ne_nil _ _)
          simp only [hd, List.head_cons] at this
          rw [this]; exact Bool.false_ne_true
        have hyl : y ∈ l := by rw [← e, hd]; exact List.mem_append_right _ List.mem_cons_self
        have hys : ltS s y = true := ltS_tri hy fun e => hs (e ▸ hyl)
        rw [hd] at hx p2
        rcases List.mem_cons.1 hx with rfl | hx
        · exact hys
        · exact ltS_trans hys ((List.pairwise_cons.1 p2).1 x hx)
    refine List.pairwise_append.2 ⟨p1, List.pairwise_cons.2 ⟨hgt, p2⟩, fun a ha b hb => ?_⟩
    rcases List.mem_cons.1 hb with rfl | hb
    · exact hlt a ha
    · exact p3 a ha b hb
theorem putAll_srt (kv : List ByteArray) : ∀ acc : List ByteArray, SrtS acc → SrtS (putAll acc kv) := by
 induction kv with
 | nil => intro acc h; exact h
 | cons s kv ih => intro acc h; exact ih _ (putS_srt s h)
theorem foldAll_srt (l : List (List ByteArray)) : ∀ acc : List ByteArray, SrtS acc → SrtS (l.foldl putAll acc) := by
 induction l with
 | nil => intro acc h; exact h
 | cons s l ih => intro acc h; exact ih _ (putAll_srt s acc h)
theorem Nd.vars_srt (n : Nd) : SrtS n.vars := by
 rw [Nd.vars_eq, varsOf]
 refine foldAll_srt _ _ ?_
 split
 ·exact .nil
 ·exact putS_srt _ .nil
theorem SrtS.nodup {l : List ByteArray} (h : SrtS l) : l.Nodup := List.Pairwise.imp (fun {a b} hab e => by subst e; exact ltS_irr _ hab) h
theorem sortN_eq {a b : List ByteArray} (ha : a.Nodup) (hb : SrtS b) (h : ∀ v, v ∈ a ↔ v ∈ b) : sortN a = b := by
 have hp : a.Perm b := (List.perm_ext_iff_of_nodup ha hb.nodup).2 fun v => h v
 have hs : (b.map fun s => s.data.toList).mergeSort (fun x y => decide (x ≤ y)) = b.map fun s => s.data.toList := by
  refine List.mergeSort_of_pairwise ?_
  rw [List.pairwise_map]
  exact List.Pairwise.imp (fun {a b} hab => by rw [decide_eq_true_eq]; exact List.le_of_lt (ltS_iff.1 hab)) hb
 rw [sortN, mergeSort_of_perm (hp.map _)]
 show (List.map bytesOf ((b.map fun s => s.data.toList).mergeSort fun x y => decide (x ≤ y))) = b
 rw [hs, List.map_map]
 conv => rhs; rw [← List.map_id b]
 exact List.map_congr_left fun x _ => ba_ext (by simp [bytesOf])
theorem Hp.setObj_id {σ : Hp} {g : Nat} {x : Option (List V)} (h : σ.obj g = x) : σ.setObj g x = σ := by
 subst h
 cases σ
 simp only [Hp.setObj, Hp.mk.injEq, and_true]
 funext j
 by_cases e : j = g
 ·simp [e]
 ·simp [e]
theorem isMap_none : isMap [.c (.map none)] = false := rfl
theorem foldAdds_nodup {l : List (List ByteArray → List ByteArray)} : (∀ f ∈ l, ∀ a : List ByteArray, a.Nodup → (f a).Nodup) → ∀ a : List ByteArray, a.Nodup → (l.foldl (fun a f => f a) a).Nodup := by
 induction l with
 | nil => intro _ a h; exact h
 | cons f l ih => intro hf a h; exact ih (fun g hg => hf g (List.mem_cons_of_mem _ hg)) _ (hf f List.mem_cons_self a h)
theorem Nd.adds_nodup : ∀ (n : Nd) (a : List ByteArray), a.Nodup → (n.adds a).Nodup := Nd.ind fun n ih a h => by
 rw [n.adds_eq]
 refine foldAdds_nodup (fun f hf a ha => ?_) _ ?_
 ·obtain ⟨x, hx, rfl⟩ := List.mem_map.1 hf; exact ih x hx a ha
 ·split
  ·exact h
  ·exact addN_nodup h
theorem foldAdds_mem (v : ByteArray) {l : List Nd} : (∀ x ∈ l, ∀ a : List ByteArray, v ∈ x.adds a ↔ v ∈ a ∨ v ∈ x.vars) → ∀ a : List ByteArray, v ∈ (l.map Nd.adds).foldl (fun a f => f a) a ↔ v ∈ a ∨ ∃ x ∈ l, v ∈ x.vars := by
  induction l with
  | nil => intro _ a; simp
  | cons y l ih =>
    intro hf a
    rw [List.map_cons, List.foldl_cons, ih (fun g hg => hf g (List.mem_cons_of_mem _ hg)), hf y List.mem_cons_self]
    simp [or_assoc]
theorem Nd.adds_mem (v : ByteArray) : ∀ (n : Nd) (a : List ByteArray), v ∈ n.adds a ↔ v ∈ a ∨ v ∈ n.vars := Nd.ind fun n ih a => by
 rw [n.adds_eq, foldAdds_mem v (fun x hx => ih x hx), Nd.vars_mem]
 split
 ·rename_i h; simp [h]
 ·rename_i h; simp [h, addN_mem, or_left_comm, or_comm, or_assoc]
theorem foldAdds_len {l : List Nd} : (∀ x ∈ l, ∀ a : List ByteArray, (x.adds a).length ≤ a.length + x.size) → ∀ a : List ByteArray, ((l.map Nd.adds).foldl (fun a f => f a) a).length ≤ a.length + (l.map Nd.size).sum := by
  induction l with
  | nil => intro _ a; exact Nat.le_refl _
  | cons y l ih =>
    intro hf a
    have h1 := ih (fun g hg => hf g (List.mem_cons_of_mem _ hg)) (y.adds a)
    have h2 := hf y List.mem_cons_self a
    simp only [List.map_cons, List.foldl_cons, List.sum_cons]; omega
theorem addN_len (a : List ByteArray) (s : ByteArray) : (addN a s).length ≤ a.length + 1 := by
 unfold addN; split <;> simp
theorem Nd.adds_len : ∀ (n : Nd) (a : List ByteArray), (n.adds a).length ≤ a.length + n.size := Nd.ind fun n ih a => by
 rw [n.adds_eq, Nd.size_eq]
 have h1 := foldAdds_len (fun x hx => ih x hx) (if n.var.size = 0 then a else addN a n.var)
 have h2 : (if n.var.size = 0 then a else addN a n.var).length ≤ a.length + 1 := by
  split
  ·omega
  ·exact addN_len a n.var
 omega
theorem sortN_vars (n : Nd) : sortN (n.adds []) = n.vars :=
 sortN_eq (n.adds_nodup [] .nil) n.vars_srt fun v => by rw [n.adds_mem]; simp
theorem Nd.var_sz {n : Nd} (h : n.err = 0) : n.var.size ≤ 32 := by
 have h0 := Nd.err_own h
 unfold ndOwn at h0
 split at h0
 ·split at h0
  ·cases h0
  ·rename_i hb
   simp only [leafBad, Bool.or_eq_true, not_or, Bool.not_eq_true', Bool.not_eq_false, isName, Bool.and_eq_true, decide_eq_true_eq] at hb
   exact hb.1.2.2
 ·split at h0
  ·split at h0
   ·cases h0
   ·rename_i hb
    simp only [joinBad, Bool.or_eq_true, not_or, decide_eq_true_eq, Decidable.not_not] at hb
    omega
  ·cases h0
theorem Nd.vars_sz : ∀ n : Nd, n.err = 0 → ∀ v ∈ n.vars, v.size ≤ 32 := Nd.ind fun n ih h v hv => by
 rcases (n.vars_mem v).1 hv with ⟨_, rfl⟩ | ⟨x, hx, hv⟩
 ·exact n.var_sz h
 ·exact ih x hx (Nd.err_kid h hx) v hv
theorem isMap_nf : isMap [.c .nilFunc] = false := rfl
theorem zt125 : zeroT Tryz.prog 125 = some .nilFunc := by kernel_rfl
def hpV (gm g3 g4 : Nat) : Hp := ((Hp.empty.setObj gm (some [.tup []])).setObj g3 (some [.c (.map (some gm))])).setObj g4 (some [.fn (.func 75) [] [ptrV g3, ptrV g4]])
theorem hpV_N {gm g3 g4 : Nat} (h3 : ¬ gm = g3) (h4 : ¬ gm = g4) : hpN (hpV gm g3 g4) gm [] = hpV gm g3 g4 := Hp.setObj_id (by simp [hpV, h3, h4, entS])
theorem Vars_spec {n : Nd} (hn : n.small) (hk : n.err = 0) : PCalls Tryz.prog 37 [.agg (encNd n)] (fun v => v = .sl (n.vars.map encS)) := by
 have hsz : ∀ s ∈ n.adds [], s.size ≤ maxLen := fun s hs => by
  rw [n.adds_mem] at hs
  have := n.vars_sz hk s (by simpa using hs)
  unfold maxLen; omega
 have hlen : (n.adds []).length ≤ 1048576 := by
  have := n.adds_len []
  unfold Nd.small at hn
  simp only [List.length_nil] at this; omega
 have hE := (encNd_eq n).symm
 rw [encNd_eq]
 refine ACalls.bare (R := fun v _ => v = .sl (n.vars.map encS)) (ACalls.intro Tryz.call37 Tryz.func37 rfl Tryz.ntmps37 Tryz.results37 (by simp) ?_) fun _ _ h => h
 refine AW.sr trivial ?_
 refine AW.seq_k fun K2 h2 => ?_
 refine AW.region (T := { hp := fun d => d == 3 }) (fun _ _ h => by cases h) rfl ?_
 all_goals (refine S.g rfl rfl fun Y Z => ?_; simp only [zz, simprocAttr, -Int.reduceNatCast', -Int.reduceToNat, isMap_none, if_pos, if_neg]; intro gm ngm <;> (refine Z _ _ ?_; clear Z Y))
 all_goals have q1q := J3 @isMap_none @if_pos.{0} @if_neg.{0}
 all_goals (refine S.g rfl rfl fun Y Z => ?_; simp only [zz, simprocAttr, -Int.reduceNatCast', -Int.reduceToNat, tt, q1q]; intro g3 ng3 <;> (refine Z _ _ ?_; clear Z Y))
 all_goals refine S.one q1q ?_
 all_goals (refine S.nil ?_; simp only [ze, simprocAttr, q1q]; apply_assumption)
 refine AW.seq_k fun K3 h3 => ?_
 have hn3 : ¬ gm = g3 := fun e => by subst e; simp at ng3
 all_goals refine AW.region (T := { hp := fun d => d == 4 }) (fun _ _ h => by cases h) rfl ?_
 all_goals (refine S.g rfl rfl fun Y Z => ?_; simp only [zz, simprocAttr, -Int.reduceNatCast', -Int.reduceToNat, zt125]; intro g4 ng4 <;> (refine Z _ _ ?_; clear Z Y))
 all_goals (refine S.nil ?_; simp only [ze, simprocAttr]; apply_assumption)
 have hn4 : ¬ gm = g4 := fun e => by subst e; simp at ng4; split at ng4 <;> cases ng4
 have hn34 : ¬ g3 = g4 := fun e => by simp [e] at ng4
 all_goals refine AW.sr (J5 @ok125 @sz125 @ag125 @isMap_fn @isMap_nf) ?_
 refine AW.seq_k fun K5 h5 => ?_
 rw [show (((Hp.empty.setObj gm (some [V.tup []])).setObj g3 (some [.c (.map (some gm))])).setObj g4 (some [.fn (.func 75) [] [.c (.pointer (some ⟨g3, 0, none⟩)), .c (.pointer (some ⟨g4, 0, none⟩))]])) = hpN (hpV gm g3 g4) gm [] from (hpV_N hn3 hn4).symm]
 have hf4 : (hpN (hpV gm g3 g4) gm []).obj g4 = some [.fn (.func 75) [] [.c (.pointer (some ⟨g3, 0, none⟩)), .c (.pointer (some ⟨g4, 0, none⟩))]] := by rw [hpV_N hn3 hn4]; simp [hpV, ptrV]
 all_goals refine AW.reg0 ?_
 all_goals iterate 2 refine S.one (J7 hf4 @isMap_fn @nd hE @ok125 @sz125 @ag125) ?_
 all_goals have q2q := J7 hf4 @isMap_fn @nd hE @ok125 @sz125 @ag125
 all_goals (refine S.g rfl rfl fun Y Z => ?_; simp only [zz, simprocAttr, -Int.reduceNatCast', -Int.reduceToNat, q2q]; (refine ACalls.to (adds_spec (σ0 := hpV gm g3 g4) (g3 := g3) (g4 := g4) (gm := gm) (by simp [hpV, hn34]) (by simp [hpV]) (Ne.symm hn3) (Ne.symm hn4) n hn []) ?_; rintro _ _ ⟨rfl, rfl⟩) <;> (refine Z _ _ ?_; clear Z Y))
 all_goals (refine S.nil ?_; simp only [ze, simprocAttr, q2q]; apply_assumption)
 have hf3 : (hpN (hpV gm g3 g4) gm (n.adds [])).obj g3 = some [.c (.map (some gm))] := by simp [hpN, hpV, hn3, hn34, Ne.symm hn3]
 refine AW.seq_k fun K6 h6 => ?_
 all_goals refine AW.reg0 ?_
 all_goals refine S.one (J2 hf3 @isMap_c) ?_
 all_goals have q3q := J2 hf3 @isMap_c
 all_goals (refine S.g rfl rfl fun Y Z => ?_; simp only [zz, simprocAttr, -Int.reduceNatCast', -Int.reduceToNat, q3q]; (refine ACalls.to (list_spec (g := gm) (names := n.adds []) (by simp [hpN]) (n.adds_nodup [] .nil) hsz hlen) ?_; rintro _ _ ⟨rfl, rfl⟩) <;> (refine Z _ _ ?_; clear Z Y))
 all_goals refine S.one q3q ?_
 all_goals (refine S.nil ?_; simp only [ze, simprocAttr, q3q]; apply_assumption)
 refine AW.ret ?_
 all_goals simp only [zs, simprocAttr]
 rw [sortN_vars]
 all_goals ((try and_intros) <;> first | rfl | assumption | (rfl))
theorem ent_look (K : St → Hp → Prop) (s : St) (d : Nat) (σ : Hp) {names : List ByteArray} {nm : ByteArray} (h : K (s.put d (.c (.bool (names.any fun t => nm.toList == t.toList)))) σ) :
  match entV (entS names) (.string nm) 0 with | some (_, v) => K (s.put d v) σ | none => K (s.put d (.c (.bool false))) σ := by
 rcases entS_at nm names 0 with ⟨h1, h2⟩ | ⟨h1, j, h2, _⟩
 ·rw [h2]; rw [h1] at h; exact h
 ·rw [h2]; rw [h1] at h; exact h
theorem any_str {l : List ByteArray} {s : ByteArray} : (l.any fun t => s.toList == t.toList) = true ↔ s ∈ l := by
 have : (l.any fun t => s.toList == t.toList) = hasS l s := by
  unfold hasS eqS; congr 1; funext t; rw [Bool.eq_iff_iff, beq_iff_eq, beq_iff_eq]; exact ⟨Eq.symm, Eq.symm⟩
 rw [this, hasS_iff]
def seenN (n : Nd) (i : Nat) (names : List ByteArray) : Prop := ∀ v, v ∈ names ↔ twin n = true ∧ ∃ x ∈ n.kids.take i, v ∈ x.vars
def addsN (names : List ByteArray) (l : List ByteArray) : List ByteArray := l.foldl addN names
theorem addsN_mem {l : List ByteArray} {v : ByteArray} : ∀ {a : List ByteArray}, v ∈ addsN a l ↔ v ∈ a ∨ v ∈ l := by
  induction l with
  | nil => intro a; simp [addsN]
  | cons s l ih =>
    intro a
    have := @ih (addN a s)
    simp only [addsN, List.foldl_cons] at this ⊢
    rw [this, addN_mem, List.mem_cons, or_assoc, or_left_comm]
theorem addsN_step {l : List ByteArray} {j : Nat} {s : ByteArray} (h : l[j]? = some s) (a : List ByteArray) : addN (addsN a (l.take j)) s = addsN a (l.take (j + 1)) := by
 rw [List.take_add_one, h, addsN, addsN, List.foldl_append]; rfl
theorem seen_any {n x : Nd} {i : Nat} {names : List ByteArray} (h : seenN n i names) (ht : twin n = true) : (((n.kids.take i).map Nd.vars).any (meets x.vars) = true) ↔ ∃ v ∈ x.vars, v ∈ names := by
 simp only [List.any_eq_true, List.mem_map, meets, hasS_iff]
 constructor
 ·rintro ⟨_, ⟨y, hy, rfl⟩, v, h1, h2⟩
  exact ⟨v, h2, (h v).2 ⟨ht, y, hy, h1⟩⟩
 ·rintro ⟨v, h1, h2⟩
  obtain ⟨_, y, hy, h3⟩ := (h v).1 h2
  exact ⟨_, ⟨y, hy, rfl⟩, v, h3, h1⟩
theorem seen_step {n x : Nd} {i : Nat} {names : List ByteArray} (h : seenN n i names) (ht : twin n = true) (hx : n.kids[i]? = some x) : seenN n (i + 1) (addsN names x.vars) := fun v => by
 rw [addsN_mem, h v, List.take_add_one, hx]
 simp only [List.mem_append, Option.toList_some, List.mem_singleton, ht, true_and]
 constructor
 ·rintro (⟨y, hy, k⟩ | k)
  ·exact ⟨y, .inl hy, k⟩
  ·exact ⟨x, .inr rfl, k⟩
 ·rintro ⟨y, hy | rfl, k⟩
  ·exact .inl ⟨y, hy, k⟩
  ·exact .inr k
theorem seen_skip {n : Nd} {i : Nat} {names : List ByteArray} (h : seenN n i names) (ht : twin n = false) : seenN n (i + 1) names := fun v => by
 rw [h v, ht]; simp
theorem kid_dropS {l : List ByteArray} {i : Nat} {x : ByteArray} (hx : l[i]? = some x) : l.drop i = x :: l.drop (i + 1) := by
 obtain ⟨hi, h⟩ := List.getElem?_eq_some_iff.1 hx
 rw [List.drop_eq_getElem_cons hi, h]
theorem stS (x : ByteArray) : List.map wk1 (encS x) = encS x := rfl
theorem seen_take {n x : Nd} {i : Nat} (hx : n.kids[i]? = some x) : (n.kids.take i).map Nd.vars ++ [x.vars] = (n.kids.take (i + 1)).map Nd.vars := by
 rw [List.take_add_one, hx, List.map_append]; rfl
theorem Binds_spec : ∀ n : Nd, n.small → n.err = 0 → PCalls Tryz.prog 70 [.agg (encNd n)] (fun v => v = .c (.int .i64 n.binds)) := Nd.ind fun n ih hn hk => by
 have hl := hn.len
 have hb0 := n.binds_eq
 rw [encNd_eq]
 refine ACalls.bare (R := fun v _ => v = .c (.int .i64 n.binds)) (ACalls.intro Tryz.call70 Tryz.func70 rfl Tryz.ntmps70 Tryz.results70 (by simp) ?_) fun _ _ h => h
 refine AW.sr trivial ?_
 refine AW.seq_k fun K2 h2 => ?_
 refine AW.reg0 ?_
 (refine S.g rfl rfl fun Y Z => ?_; simp only [zz, simprocAttr, -Int.reduceNatCast', -Int.reduceToNat]; intro gm ngm <;> (refine Z _ _ ?_; clear Z Y))
 all_goals refine S.one trivial ?_
 all_goals (refine S.nil ?_; simp only [ze, simprocAttr]; apply_assumption)
 refine AW.seq_k fun K3 h3 => ?_
 all_goals refine AW.sr trivial ?_
 refine AW.block ?_   -- 0
 refine AW.loop (fun m s σ => ∃ (i : Nat) (names : List ByteArray), m + i = n.kids.length ∧ σ = hpN Hp.empty gm names ∧ seenN n i names ∧ n.binds = bindsFrom (twin n) ((n.kids.take i).map Nd.vars) ((n.kids.drop i).map bindOf) ∧ s.t 1 = .lp 1 0 ∧ s.l 1 = some [.c (.int .i64 n.kind), .c (.string n.var), .c (.string n.type), .sl (n.tests.map encC), .sl (n.kids.map encNd)] ∧ s.t 3 = .c (.map (some gm)) ∧ s.t 11 = .sl (n.kids.map encNd) ∧ s.t 12 = .c (.int .i64 (n.kids.length : Nat)) ∧ s.t 13 = .c (.int .i64 (i : Nat))) n.kids.length ?_ ?_
 ·refine ⟨0, [], by simp, rfl, (fun v => by simp), by simpa using hb0, ?_⟩
  simp only [zs, simprocAttr]
  all_goals ((try and_intros) <;> first | rfl | assumption | (rfl))
 rintro m s σ ⟨i, names, hm, rfl, hse, hp, e1, l1, e3, e11, e12, e13⟩
 all_goals refine AW.sr (J2 e12 e13) ?_
 refine AW.seq_k fun K6 h6 => ?_
 refine AW.cond (b := decide (i < n.kids.length)) (by simp [ev]) (fun hi => ?_) (fun hi => ?_)
 ·have hi := of_decide_eq_true hi
  obtain ⟨x, hx, hxm, hg⟩ := kid_get hi
  have hw := wadd1 (a := i) (by omega)
  have hxs := x.vars_size
  have hxn : x.size ≤ 1048576 := hn.kid hxm
  rw [kid_drop hx, List.map_cons, bindOf, bindsFrom] at hp
  refine AW.skip ?_
  simp only [zs, simprocAttr]
  all_goals apply_assumption
  refine AW.seq_k fun K7 h7 => ?_
  refine AW.block ?_   -- 1
  refine AW.sr (J6 e11 e13 hi hg @nd @List.length_map.{0,0}) ?_
  refine AW.seq_k fun K9 h9 => ?_
  refine AW.seq_k fun K10 h10 => ?_
  refine AW.reg0 ?_
  refine S.one @nd ?_
  (refine S.g rfl rfl fun Y Z => ?_; simp only [zz, simprocAttr, -Int.reduceNatCast', -Int.reduceToNat, nd]; refine PCalls.eqto (ih x hxm (hn.kid hxm) (Nd.err_kid hk hxm)) ?_ <;> (refine Z _ _ ?_; clear Z Y))
  all_goals refine S.one @nd ?_
  all_goals (refine S.nil ?_; simp only [ze, simprocAttr, nd]; apply_assumption)
  all_goals refine AW.sr trivial ?_
  refine AW.cond (b := x.binds != 0) (by simp [ev]) (fun hb => ?_) (fun hb => ?_)
  ·have hb : ¬ x.binds = 0 := by simpa using hb
   rw [if_neg hb] at hp
   refine AW.sr trivial ?_
   refine AW.ret ?_
   simp only [zs, simprocAttr]
   all_goals ((try and_intros) <;> first | rfl | assumption | ((rw [hp])))
  have hb : x.binds = 0 := by simpa using hb
  rw [if_pos hb] at hp
  refine AW.skip ?_
  all_goals simp only [zs, simprocAttr]
  all_goals apply_assumption
  refine AW.seq_k fun K13 h13 => ?_
  refine AW.seq_j (fun s' σ' => σ' = hpN Hp.empty gm names ∧ s'.t 29 = .c (.bool (!twin n)) ∧ s'.t 1 = .lp 1 0 ∧ s'.l 1 = some [.c (.int .i64 n.kind), .c (.string n.var), .c (.string n.type), .sl (n.tests.map encC), .sl (n.kids.map encNd)] ∧ s'.t 3 = .c (.map (some gm)) ∧ s'.t 11 = .sl (n.kids.map encNd) ∧ s'.t 12 = .c (.int .i64 (n.kids.length : Nat)) ∧ s'.t 13 = .c (.int .i64 (i : Nat)) ∧ s'.t 5 = .lp 5 0 ∧ s'.l 5 = some (encNd x)) ?_ ?_
  ·skip
   refine AW.reg0 ?_
   iterate 2 refine S.one (J2 e1 l1) ?_
   (refine S.sp (J2 e1 l1) fun b a24 => ?_; cases b <;> (try exact nope a24))
   all_goals iterate 5 refine S.one (J2 e1 l1) ?_
   all_goals refine S.nil ?_
   all_goals simp only [ze, simprocAttr, e1, l1]
   all_goals (first | (simp_all [twin, kill]; done) | (simp_all [twin, kill, bne]; rfl))
  rintro s σ ⟨rfl, e29, e1, l1, e3, e11, e12, e13, e5, l5⟩
  refine AW.cond (b := !twin n) e29 (fun ht => ?_) (fun ht => ?_)
  ·have ht : twin n = false := by simpa using ht
   refine AW.exit ?_
   simp only [zs, simprocAttr]
   all_goals apply_assumption
   have q1q := J7 e1 l1 e3 e11 e12 e13 hw
   refine AW.reg0 (S.rn q1q ?_)
   simp only [ze, simprocAttr, q1q]
   refine ⟨m - 1, by omega, i + 1, names, by omega, rfl, seen_skip hse ht, ?_, ?_⟩
   ·rw [hp, ht, Bool.false_and, if_neg Bool.false_ne_true, seen_take hx]
   ·all_goals ((try and_intros) <;> first | rfl | assumption | (rfl))
  have ht : twin n = true := by simpa using ht
  refine AW.skip ?_
  all_goals simp only [zs, simprocAttr]
  all_goals apply_assumption
  refine AW.seq_k fun K14 h14 => ?_
  all_goals refine AW.reg0 ?_
  all_goals refine S.one (J3 e5 l5 @nd) ?_
  all_goals (refine S.g rfl rfl fun Y Z => ?_; simp only [zz, simprocAttr, -Int.reduceNatCast', -Int.reduceToNat, e5, l5, nd]; refine PCalls.eqto (Vars_spec (hn.kid hxm) (Nd.err_kid hk hxm)) ?_ <;> (refine Z _ _ ?_; clear Z Y))
  all_goals iterate 2 refine S.one (J3 e5 l5 @nd) ?_
  all_goals (refine S.nil ?_; simp only [ze, simprocAttr, e5, l5, nd]; apply_assumption)
  have hnd := x.vars_srt.nodup
  refine AW.block ?_   -- 2
  refine AW.loop (fun m2 s σ => ∃ (j : Nat), m2 + j = x.vars.length ∧ σ = hpN Hp.empty gm (addsN names (x.vars.take j)) ∧ (∀ v ∈ x.vars.take j, v ∉ names) ∧ s.t 1 = .lp 1 0 ∧ s.l 1 = some [.c (.int .i64 n.kind), .c (.string n.var), .c (.string n.type), .sl (n.tests.map encC), .sl (n.kids.map encNd)] ∧ s.t 3 = .c (.map (some gm)) ∧ s.t 11 = .sl (n.kids.map encNd) ∧ s.t 12 = .c (.int .i64 (n.kids.length : Nat)) ∧ s.t 13 = .c (.int .i64 (i : Nat)) ∧ s.t 31 = .sl (x.vars.map encS) ∧ s.t 32 = .c (.int .i64 (x.vars.length : Nat)) ∧ s.t 33 = .c (.int .i64 (j : Nat))) x.vars.length ?_ ?_
  ·refine ⟨0, by simp, rfl, (fun v h => by simp at h), ?_⟩
   simp only [zs, simprocAttr, e1, l1, e3, e11, e12, e13]
   all_goals ((try and_intros) <;> first | rfl | assumption | (rfl))
  rintro m2 s σ ⟨j, hm2, rfl, hno, e1, l1, e3, e11, e12, e13, e31, e32, e33⟩
  all_goals refine AW.sr (J2 e32 e33) ?_
  refine AW.seq_k fun K16 h16 => ?_
  refine AW.cond (b := decide (j < x.vars.length)) (by simp [ev]) (fun hj => ?_) (fun hj => ?_)
  ·have hj := of_decide_eq_true hj
   obtain ⟨v, hv, hvg, _⟩ := str_get hj
   have hvm := List.mem_of_getElem? hv
   have hw2 := wadd1 (a := j) (by omega)
   refine AW.skip ?_
   simp only [zs, simprocAttr]
   all_goals apply_assumption
   refine AW.seq_k fun K17 h17 => ?_
   refine AW.block ?_   -- 3
   refine AW.sr (J5 e31 e33 hj hvg @List.length_map.{0,0}) ?_
   have hjn : v ∉ x.vars.take j := fun h => by
    rw [← List.take_append_drop j x.vars, kid_dropS hv] at hnd
    exact (List.nodup_append.1 hnd).2.2 v h v List.mem_cons_self rfl
   have hin : v ∈ addsN names (x.vars.take j) ↔ v ∈ names := by rw [addsN_mem]; exact ⟨fun h => h.resolve_right hjn, .inl⟩
   refine AW.seq_k fun K19 h19 => ?_
   refine AW.seq_k fun K20 h20 => ?_
   unfold hpN
   refine AW.reg0 ?_
   iterate 2 refine S.one e3 ?_
   (refine S.g rfl rfl fun Y Z => ?_; simp only [zn, simprocAttr, -Int.reduceNatCast', -Int.reduceToNat, e3]; (refine ⟨_, _, _, Tryz.underlying124, KeyT.str Tryz.underlying9, rfl, entS_ok _, ?_⟩); (try simp only [tt, ofC, Option.some.injEq, exists_eq_left', zz, simprocAttr, -Int.reduceNatCast', -Int.reduceToNat, e3]); refine ent_look Y _ _ _ ?_ <;> (refine Z _ _ ?_; clear Z Y))
   all_goals (refine S.nil ?_; simp only [ze, simprocAttr, e3]; apply_assumption)
   refine AW.cond (b := (addsN names (x.vars.take j)).any fun t => v.toList == t.toList) (by simp [ev]) (fun hf => ?_) (fun hf => ?_)
   ·have hf := hin.1 (any_str.1 hf)
    refine AW.sr trivial ?_
    refine AW.ret ?_
    simp only [zs, simprocAttr]
    rw [if_pos (by rw [(seen_any hse ht).2 ⟨v, hvm, hf⟩, ht]; rfl)] at hp
    all_goals ((try and_intros) <;> first | rfl | assumption | ((rw [hp])))
   have hf : v ∉ names := fun h => by rw [any_str.2 (hin.2 h)] at hf; cases hf
   refine AW.skip ?_
   all_goals simp only [zs, simprocAttr]
   all_goals apply_assumption
   all_goals refine AW.reg0 ?_
   all_goals iterate 2 refine S.one (J2 e3 @isMap_c) ?_
   all_goals have q2q := J2 e3 @isMap_c
   all_goals (refine S.g rfl rfl fun Y Z => ?_; simp only [zn, simprocAttr, -Int.reduceNatCast', -Int.reduceToNat, q2q]; (refine ⟨_, _, _, Tryz.underlying124, KeyT.str Tryz.underlying9, rfl, entS_ok _, ?_⟩); (try simp only [tt, ofC, Option.some.injEq, exists_eq_left', zz, simprocAttr, -Int.reduceNatCast', -Int.reduceToNat, e3, isMap_c]); refine (congrArg (Y _) (congrArg (fun x => Hp.empty.setObj gm (some [V.tup x])) (entS_upd v (addsN names (x.vars.take j))))).mpr ?_ <;> (refine Z _ _ ?_; clear Z Y))
   all_goals (refine S.nil ?_; simp only [ze, simprocAttr, q2q]; apply_assumption)
   rw [addsN_step hv]
   all_goals have q3q := J10 e1 l1 e3 e11 e12 e13 e31 e32 e33 hw2
   all_goals refine AW.reg0 (S.rn q3q ?_)
   all_goals simp only [ze, simprocAttr, q3q]
   refine ⟨m2 - 1, by omega, j + 1, by omega, rfl, (fun w hw => ?_), ?_⟩
   ·rw [List.take_add_one, hv] at hw
    rcases List.mem_append.1 hw with h | h
    ·exact hno w h
    ·simp at h; rw [h]; exact hf
   ·all_goals ((try and_intros) <;> first | rfl | assumption | (rfl))
  ·have hj := of_decide_eq_false hj
   refine AW.exit ?_
   simp only [zs, simprocAttr]
   all_goals apply_assumption
   rw [List.take_of_length_le (by omega)] at hno ⊢
   have q4q := J7 e1 l1 e3 e11 e12 e13 hw
   refine AW.reg0 (S.rn q4q ?_)
   simp only [ze, simprocAttr, q4q]
   refine ⟨m - 1, by omega, i + 1, addsN names x.vars, by omega, rfl, seen_step hse ht hx, ?_, ?_⟩
   ·rw [hp, if_neg, seen_take hx]
    rw [Bool.and_eq_true]
    rintro ⟨_, h⟩
    obtain ⟨v, h1, h2⟩ := (seen_any hse ht).1 h
    exact hno v h1 h2
   ·all_goals ((try and_intros) <;> first | rfl | assumption | (rfl))
 ·have hi := of_decide_eq_false hi
  refine AW.exit ?_
  simp only [zs, simprocAttr]
  all_goals apply_assumption
  refine AW.sr trivial ?_
  refine AW.ret ?_
  simp only [zs, simprocAttr]
  rw [List.drop_of_length_le (by omega)] at hp
  all_goals ((try and_intros) <;> first | rfl | assumption | ((rw [hp]; rfl)))
theorem shape_err {n : Nd} (h : n.shape = 0) : n.err = 0 := by
 unfold Nd.shape at h
 split at h
 ·cases h
 ·split at h
  ·assumption
  ·exact h
def fnV (f : FuncId) : V := .fn (.func f) [] []
theorem ok117 : okT Tryz.prog 117 = true := by kernel_rfl
theorem sz117 : szT Tryz.prog 117 = 1 := by kernel_rfl
theorem ag117 : aggT Tryz.prog 117 = false := by kernel_rfl
theorem zt117 : zeroT Tryz.prog 117 = some .nilFunc := by kernel_rfl
theorem by117 : Program.bytesOf Tryz.prog 117 = 8 := by kernel_rfl
theorem Pattern_spec (p : Pat) (hp : okPat p) : PCalls Tryz.prog 33 [.agg (encPat p)] (fun v => v = .c (.int .i64 (patErr p))) := by
 have hE := (encNd_eq p.node).symm
 have hsz := p.node.vars_size
 have hsm : p.node.size ≤ 1048576 := hp.small
 refine PCalls.intro Tryz.call33 Tryz.func33 rfl Tryz.ntmps33 Tryz.results33 (by simp) ?_
 refine AW.sr @encPat.eq_1 ?_
 refine AW.seq_k fun K2 h2 => ?_
 refine AW.seq_j (fun s' σ' => σ' = Hp.empty ∧ s'.t 1 = .lp 1 0 ∧ s'.l 1 = some (encPat p) ∧ s'.t 19 = .c (.bool (patOwn p))) ?_ ?_
 ·skip
  refine AW.reg0 ?_
  iterate 2 refine S.one trivial ?_
  (refine S.g rfl rfl fun Y Z => ?_; simp only [zz, simprocAttr, -Int.reduceNatCast', -Int.reduceToNat]; refine PCalls.eqto (name_spec _ hp.name) ?_; refine S.bool fun b a8 => ?_; cases b <;> (try exact nope a8) <;> (refine Z _ _ ?_; clear Z Y))
  all_goals iterate 4 refine S.one trivial ?_
  all_goals (first | (refine S.sp trivial fun b a13 => ?_; cases b <;> (try exact nope a13)) | ((first | refine S.x rfl rfl rfl rfl fun Y Z => ?_ | refine S.u rfl rfl rfl rfl fun Y Z => ?_); simp only [ze, simprocAttr, -Int.reduceNatCast', -Int.reduceToNat]; refine Z _ _ ?_; clear Z Y))
  all_goals iterate 6 refine S.one trivial ?_
  all_goals refine S.nil ?_
  all_goals simp only [ze, simprocAttr]
  all_goals simp_all [patOwn, encPat]
  all_goals omega
 rintro s σ ⟨rfl, e1, l1, e19⟩
 refine AW.cond (b := patOwn p) e19 (fun hb => ?_) (fun hb => ?_)
 ·refine AW.sr trivial ?_
  refine AW.ret ?_
  simp only [zs, simprocAttr]
  all_goals ((try and_intros) <;> first | rfl | assumption | (rw [patErr, if_pos hb]))
 have hs : patErr p = if p.node.shape = 0 then (if p.node.binds = 0 then cndsErr p.node.vars p.conds else p.node.binds) else p.node.shape := by rw [patErr, if_neg (by rw [hb]; exact Bool.false_ne_true)]
 refine AW.skip ?_
 all_goals simp only [zs, simprocAttr]
 all_goals apply_assumption
 refine AW.seq_k fun K4 h4 => ?_
 refine AW.seq_k fun K5 h5 => ?_
 all_goals refine AW.reg0 ?_
 all_goals (refine S.g rfl rfl fun Y Z => ?_; simp only [zb, simprocAttr, -Int.reduceNatCast', -Int.reduceToNat, tt, zt117, by117, sz117]; refine ⟨rfl, (by simp), ?_⟩ <;> (refine Z _ _ ?_; clear Z Y))
 all_goals iterate 2 refine S.one @sz117 ?_
 all_goals (refine S.nil ?_; simp only [ze, simprocAttr, sz117]; apply_assumption)
 refine AW.block ?_   -- 0
 refine AW.loop (fun m s σ => σ = Hp.empty ∧ ∃ i : Nat, m + i = 2 ∧ (1 ≤ i → p.node.shape = 0) ∧ (2 ≤ i → p.node.binds = 0) ∧ s.t 1 = .lp 1 0 ∧ s.l 1 = some (encPat p) ∧ s.t 20 = .sl [[fnV 69], [fnV 70]] ∧ s.t 21 = .c (.int .i64 2) ∧ s.t 22 = .c (.int .i64 (i : Nat))) 2 ?_ ?_
 ·refine ⟨rfl, 0, by simp, (fun h => by omega), (fun h => by omega), ?_⟩
  simp only [zs, simprocAttr, e1, l1]
  all_goals ((try and_intros) <;> first | rfl | assumption | (rfl))
 rintro m s σ ⟨rfl, i, hm, hq1, hq2, e1, l1, e20, e21, e22⟩
 all_goals refine AW.sr (J2 e21 e22) ?_
 refine AW.seq_k fun K7 h7 => ?_
 refine AW.cond (b := decide (i < 2)) (by simp [ev]; omega) (fun hi => ?_) (fun hi => ?_)
 ·have hi := of_decide_eq_true hi
  have hw := wadd1 (a := i) (by omega)
  refine AW.skip ?_
  simp only [zs, simprocAttr]
  all_goals apply_assumption
  refine AW.seq_k fun K8 h8 => ?_
  refine AW.block ?_   -- 1
  refine AW.seq_j (fun s' σ' => σ' = Hp.empty ∧ s'.t 1 = .lp 1 0 ∧ s'.l 1 = some (encPat p) ∧ s'.t 20 = .sl [[fnV 69], [fnV 70]] ∧ s'.t 21 = .c (.int .i64 2) ∧ s'.t 22 = .c (.int .i64 (i : Nat)) ∧ s'.t 4 = fnV (69 + i)) ?_ ?_
  ·have hc : i = 0 ∨ i = 1 := by omega
   rcases hc with rfl | rfl
   ·skip
    have q1q := J6 e20 e22 @fnV.eq_1 @ok117 @sz117 @ag117
    refine AW.reg0 (S.rn q1q ?_)
    simp only [ze, simprocAttr, q1q]
    all_goals ((try and_intros) <;> first | rfl | assumption | (rfl))
   ·skip
    have q2q := J6 e20 e22 @fnV.eq_1 @ok117 @sz117 @ag117
    refine AW.reg0 (S.rn q2q ?_)
    simp only [ze, simprocAttr, q2q]
    all_goals ((try and_intros) <;> first | rfl | assumption | (rfl))
  rintro s σ ⟨rfl, e1, l1, e20, e21, e22, e4⟩
  refine AW.seq_j (fun s' σ' => σ' = Hp.empty ∧ s'.t 1 = .lp 1 0 ∧ s'.l 1 = some (encPat p) ∧ s'.t 20 = .sl [[fnV 69], [fnV 70]] ∧ s'.t 21 = .c (.int .i64 2) ∧ s'.t 22 = .c (.int .i64 (i : Nat)) ∧ s'.t 5 = .c (.int .i64 (if i = 0 then p.node.shape else p.node.binds))) ?_ ?_
  ·have hc : i = 0 ∨ i = 1 := by omega
   rcases hc with rfl | rfl
   ·skip
    refine AW.reg0 ?_
    iterate 3 refine S.one (J7 e4 @fnV.eq_1 e1 l1 @encPat.eq_1 hE @nd) ?_
    have q3q := J7 e4 @fnV.eq_1 e1 l1 @encPat.eq_1 hE @nd
    (refine S.g rfl rfl fun Y Z => ?_; simp only [zz, simprocAttr, -Int.reduceNatCast', -Int.reduceToNat, q3q]; (first | refine PCalls.eqto (Shape_spec _ hp.small hp.ok) ?_ | refine PCalls.eqto (Binds_spec _ hp.small (shape_err (hq1 (by omega)))) ?_) <;> (refine Z _ _ ?_; clear Z Y))
    all_goals refine S.one q3q ?_
    all_goals refine S.nil ?_
    all_goals simp only [ze, simprocAttr, q3q]
    all_goals ((try and_intros) <;> first | rfl | assumption | (rfl))
   ·skip
    refine AW.reg0 ?_
    iterate 3 refine S.one (J7 e4 @fnV.eq_1 e1 l1 @encPat.eq_1 hE @nd) ?_
    have q4q := J7 e4 @fnV.eq_1 e1 l1 @encPat.eq_1 hE @nd
    (refine S.g rfl rfl fun Y Z => ?_; simp only [zz, simprocAttr, -Int.reduceNatCast', -Int.reduceToNat, q4q]; (first | refine PCalls.eqto (Shape_spec _ hp.small hp.ok) ?_ | refine PCalls.eqto (Binds_spec _ hp.small (shape_err (hq1 (by omega)))) ?_) <;> (refine Z _ _ ?_; clear Z Y))
    all_goals refine S.one q4q ?_
    all_goals refine S.nil ?_
    all_goals simp only [ze, simprocAttr, q4q]
    all_goals ((try and_intros) <;> first | rfl | assumption | (rfl))
  rintro s σ ⟨rfl, e1, l1, e20, e21, e22, e5⟩
  all_goals refine AW.sr e5 ?_
  refine AW.cond (b := (if i = 0 then p.node.shape else p.node.binds) != 0) (by simp [ev]) (fun hc => ?_) (fun hc => ?_)
  ·have hc : ¬ (if i = 0 then p.node.shape else p.node.binds) = 0 := by simpa using hc
   refine AW.sr e5 ?_
   refine AW.ret ?_
   simp only [zs, simprocAttr]
   have hc' : patErr p = if i = 0 then p.node.shape else p.node.binds := by
    rw [hs]
    split at hc
    ·rename_i h; rw [if_pos h, if_neg hc]
    ·rename_i h; rw [if_neg h, if_pos (hq1 (by omega)), if_neg hc]
   all_goals ((try and_intros) <;> first | rfl | assumption | ((rw [hc'])))
  ·have hc : (if i = 0 then p.node.shape else p.node.binds) = 0 := by simpa using hc
   refine AW.skip ?_
   simp only [zs, simprocAttr]
   all_goals apply_assumption
   have q5q := J6 e1 l1 e20 e21 e22 hw
   refine AW.reg0 (S.rn q5q ?_)
   simp only [ze, simprocAttr, q5q]
   refine ⟨m - 1, by omega, i + 1, by omega, (fun _ => ?_), (fun _ => ?_), ?_⟩
   ·by_cases h : i = 0
    ·rw [if_pos h] at hc; exact hc
    ·exact hq1 (by omega)
   ·rw [if_neg (by omega)] at hc; exact hc
   all_goals ((try and_intros) <;> first | rfl | assumption | (rfl))
 ·have hi := of_decide_eq_false hi
  have hs0 := hq1 (by omega)
  rw [if_pos hs0, if_pos (hq2 (by omega))] at hs
  refine AW.exit ?_
  simp only [zs, simprocAttr]
  all_goals apply_assumption
  refine AW.seq_k fun K11 h11 => ?_
  refine AW.dv { sd := fun d => d == 1 } [(0,0),(2,0),(1,1),(3,1),(4,2),(5,2),(6,0)] ?_
  have q6q := J5 e1 l1 @encPat.eq_1 hE @nd
  iterate 2 refine D.one q6q ?_
  iterate 2 refine D.one q6q ?_
  (refine D.g rfl trivial rfl rfl fun Y Z => ?_; simp only [zz, simprocAttr, -Int.reduceNatCast', -Int.reduceToNat, e1, l1, encPat, hE, nd]; refine PCalls.eqto (Vars_spec hp.small (shape_err hs0)) ?_ <;> (refine Z _ _ ?_; clear Z Y))
  all_goals have q7q := J5 e1 l1 @encPat.eq_1 hE @nd
  all_goals (refine D.g rfl trivial rfl rfl fun Y Z => ?_; simp only [zz, simprocAttr, -Int.reduceNatCast', -Int.reduceToNat, q7q]; refine PCalls.eqto (conds_spec p.conds p.node.vars hp.conds hp.len (by omega)) ?_ <;> (refine Z _ _ ?_; clear Z Y))
  all_goals refine D.one q7q ?_
  all_goals (refine D.nil ?_; apply_assumption)
  refine AW.ret ?_
  all_goals simp only [zs, simprocAttr]
  all_goals ((try and_intros) <;> first | rfl | assumption | ((rw [hs])))
end Go.Abs.M
namespace Go.Abs.M
open Go Go.Abs Go.Proofs
variable [Mode]
set_option maxRecDepth 20000
structure OpS where
  kind : Int
  var : ByteArray
  type : ByteArray
  tests : List Cnd
  conds : List Cnd
  win : Int
  ins : Int
def encOp (o : OpS) : List V := [.c (.int .i64 o.kind), .c (.string o.var), .c (.string o.type), .sl (o.tests.map encC), .sl (o.conds.map encC), .c (.int .i64 o.win), .c (.int .i64 o.ins)]
def encF (l : List Int) : List V := [.sl (l.map encI)]
structure Pln where
  ops : List OpS
  from_ : List (List Int)
def encPl (x : Pln) : List V := [.sl (x.ops.map encOp), .sl (x.from_.map encF)]
def eqC (a b : Cnd) : Bool := eqS a.l.var b.l.var && (eqS a.l.attr b.l.attr && (a.l.v.kind == b.l.v.kind && (a.l.v.n == b.l.v.n && (eqS a.l.v.s b.l.v.s && (a.rel == b.rel && (eqS a.r.var b.r.var && (eqS a.r.attr b.r.attr && (a.r.v.kind == b.r.v.kind && (a.r.v.n == b.r.v.n && eqS a.r.v.s b.r.v.s)))))))))
def eqI (a b : Int) : Bool := a == b
theorem eqA45 (d : Nat) (w : World) (x0 y0 x1 y1 : ByteArray) (x2 y2 x3 y3 : Int) (x4 y4 : ByteArray) :
  (Op.equalIn (d + 3) 45 (.agg #[.string x0, .string x1, .int .i64 x2, .int .i64 x3, .string x4]) (.agg #[.string y0, .string y1, .int .i64 y2, .int .i64 y3, .string y4])).run Tryz.prog w = .ok (x0.toList == y0.toList && (x1.toList == y1.toList && ((x2 == y2 && (x3 == y3 && (x4.toList == y4.toList)))))) w := by
 refine eqF_of Tryz.underlying45 (by kernel_rfl) ?_
 refine eqF_more (by rfl) (by go_simp; rfl) (by go_simp; rfl) (by go_simp) ?_
 refine eqF_more (by rfl) (by go_simp; rfl) (by go_simp; rfl) (by go_simp) ?_
 exact eqF_one (by rfl) (by go_simp) (by go_simp) (eqA43 (d + 0) w _ _ _ _ _ _)
theorem eqA47 (d : Nat) (w : World) (x0 y0 x1 y1 : ByteArray) (x2 y2 x3 y3 : Int) (x4 y4 : ByteArray) (r s : Int) (u0 v0 u1 v1 : ByteArray) (u2 v2 u3 v3 : Int) (u4 v4 : ByteArray) :
  (Op.equalIn (d + 4) 47 (.agg #[.string x0, .string x1, .int .i64 x2, .int .i64 x3, .string x4, .int .i64 r, .string u0, .string u1, .int .i64 u2, .int .i64 u3, .string u4]) (.agg #[.string y0, .string y1, .int .i64 y2, .int .i64 y3, .string y4, .int .i64 s, .string v0, .string v1, .int .i64 v2, .int .i64 v3, .string v4])).run Tryz.prog w = .ok ((x0.toList == y0.toList && (x1.toList == y1.toList && ((x2 == y2 && (x3 == y3 && (x4.toList == y4.toList)))))) && (r == s && (u0.toList == v0.toList && (u1.toList == v1.toList && ((u2 == v2 && (u3 == v3 && (u4.toList == v4.toList)))))))) w := by
 refine eqF_of Tryz.underlying47 (by kernel_rfl) ?_
 refine eqF_more (by rfl) (by go_simp) (by go_simp) (eqA45 (d + 0) w _ _ _ _ _ _ _ _ _ _) ?_
 refine eqF_more (by rfl) (by go_simp; rfl) (by go_simp; rfl) (by go_simp) ?_
 exact eqF_one (by rfl) (by go_simp) (by go_simp) (eqA45 (d + 0) w _ _ _ _ _ _ _ _ _ _)
def kC : List SK := [.str, .str, .int .i64, .int .i64, .str, .int .i64, .str, .str, .int .i64, .int .i64, .str]
theorem eqt47 : EqT Tryz.prog 47 kC := by
 refine ⟨fun op x y xs ys w => run_guard_agg (by kernel_rfl) xs ys w, fun xs ys hx hy w => ?_⟩
 obtain ⟨a0, as0, rfl, ap0⟩ := fitS hx
 obtain ⟨a1, as1, rfl, ap1⟩ := fitS ap0
 obtain ⟨a2, as2, rfl, ap2⟩ := fitI ap1
 obtain ⟨a3, as3, rfl, ap3⟩ := fitI ap2
 obtain ⟨a4, as4, rfl, ap4⟩ := fitS ap3
 obtain ⟨a5, as5, rfl, ap5⟩ := fitI ap4
 obtain ⟨a6, as6, rfl, ap6⟩ := fitS ap5
 obtain ⟨a7, as7, rfl, ap7⟩ := fitS ap6
 obtain ⟨a8, as8, rfl, ap8⟩ := fitI ap7
 obtain ⟨a9, as9, rfl, ap9⟩ := fitI ap8
 obtain ⟨a10, as10, rfl, ap10⟩ := fitS ap9
 obtain ⟨b0, bs0, rfl, bp0⟩ := fitS hy
 obtain ⟨b1, bs1, rfl, bp1⟩ := fitS bp0
 obtain ⟨b2, bs2, rfl, bp2⟩ := fitI bp1
 obtain ⟨b3, bs3, rfl, bp3⟩ := fitI bp2
 obtain ⟨b4, bs4, rfl, bp4⟩ := fitS bp3
 obtain ⟨b5, bs5, rfl, bp5⟩ := fitI bp4
 obtain ⟨b6, bs6, rfl, bp6⟩ := fitS bp5
 obtain ⟨b7, bs7, rfl, bp7⟩ := fitS bp6
 obtain ⟨b8, bs8, rfl, bp8⟩ := fitI bp7
 obtain ⟨b9, bs9, rfl, bp9⟩ := fitI bp8
 obtain ⟨b10, bs10, rfl, bp10⟩ := fitS bp9
 rw [fit0 ap10, fit0 bp10]
 have := eqA47 9996 w a0 b0 a1 b1 a2 b2 a3 b3 a4 b4 a5 b5 a6 b6 a7 b7 a8 b8 a9 b9 a10 b10
 simpa [Op.equal, Op.maxDepth, cellsEq, cellEq, Bool.and_assoc] using this
def eqTab2 (t : TypeId) : Option (List SK) := if t = 47 then some kC else eqTab t
theorem eqTab2_ok : ∀ t ks, eqTab2 t = some ks → EqT Tryz.prog t ks := fun t ks h => by
 unfold eqTab2 at h
 split at h
 ·rename_i e; subst e; injection h with h; subst h; exact eqt47
 ·exact eqTab_ok t ks h
theorem eqk47 : eqTab2 47 = some kC := rfl
theorem rsameI (l r : List Int) (hl : l.length < 4611686018427387904) : PCalls Tryz.prog 43 [.sl (l.map encI), .sl (r.map encI)] (fun v => v = .c (.bool (allEq eqI l r))) := by
 refine PCalls.intro Tryz.call43 Tryz.func43 rfl Tryz.ntmps43 Tryz.results43 (by simp) ?_
 refine AW.sr trivial ?_
 refine AW.seq_k fun K2 h2 => ?_
 refine AW.sr trivial ?_
 refine AW.cond (b := ((l.length : Int) != r.length)) (by simp [ev]) (fun hc => ?_) (fun hc => ?_)
 ·refine AW.sr trivial ?_
  refine AW.ret ?_
  simp only [zs, simprocAttr]
  rw [allEq_len (by simp at hc; omega)]
 ·refine AW.skip ?_
  simp only [zs, simprocAttr]
  all_goals apply_assumption
  have hlr : l.length = r.length := by simp at hc; omega
  refine AW.seq_k fun K5 h5 => ?_
  refine AW.sr trivial ?_
  refine AW.block ?_   -- 0
  refine AW.loop (fun m s σ => σ = Hp.empty ∧ ∃ i : Nat, m + i = l.length ∧ s.t 0 = .sl (l.map encI) ∧ s.t 1 = .sl (r.map encI) ∧ s.t 5 = .c (.int .i64 i) ∧ allEq eqI l r = allEq eqI (l.drop i) (r.drop i)) l.length ?_ ?_
  ·refine ⟨rfl, 0, by simp, ?_⟩
   simp only [zs, simprocAttr]
   simp
  rintro m s σ ⟨rfl, i, hm, e0, e1, e5, hp⟩
  refine AW.seq_k fun K7 h7 => ?_
  all_goals refine AW.sr (J2 e5 e0) ?_
  refine AW.cond (b := decide (i < l.length)) (by simp [ev]) (fun hc => ?_) (fun hc => ?_)
  ·refine AW.skip ?_
   simp only [zs, simprocAttr]
   all_goals apply_assumption
   have hi : i < l.length := by simpa using hc
   have hj : i < r.length := by omega
   have hg := getD_map (f := encI) hi
   have hg2 := getD_map (f := encI) hj
   have hd : l.drop i = l[i] :: l.drop (i + 1) := List.drop_eq_getElem_cons hi
   have hd2 : r.drop i = r[i] :: r.drop (i + 1) := List.drop_eq_getElem_cons hj
   generalize ha : l[i] = a at hg hd
   generalize hb : r[i] = b at hg2 hd2
   rw [hd, hd2, allEq] at hp
   have hw := wadd1 (a := i) (by omega)
   refine AW.seq_k fun K9 h9 => ?_
   refine AW.block ?_   -- 1
   refine AW.seq_k fun K10 h10 => ?_
   refine AW.dw [(0,0),(1,0),(2,0),(4,0),(5,0),(6,0),(3,1),(7,1),(8,0)] ?_
   have q1q := J9 e0 e1 e5 hi hj hg hg2 @encI.eq_1 @List.length_map.{0,0}
   iterate 6 refine D.one q1q ?_
   iterate 2 refine D.one q1q ?_
   refine D.one q1q ?_
   (refine D.nil ?_; apply_assumption)
   refine AW.cond (b := !eqI a b) (by simp [ev, eqI, bne]) (fun hc => ?_) (fun hc => ?_)
   ·refine AW.sr trivial ?_
    refine AW.ret ?_
    simp only [zs, simprocAttr]
    have hx : eqI a b = false := by simpa using hc
    simp [hp, hx]
   ·refine AW.skip ?_
    simp only [zs, simprocAttr]
    all_goals apply_assumption
    have hx : eqI a b = true := by simpa using hc
    refine AW.reg0 (S.rn (J2 e5 hw) ?_)
    simp only [ze, simprocAttr, e5, hw]
    refine ⟨m - 1, by omega, i + 1, by omega, e0, e1, rfl, ?_⟩
    rw [hp, hx, Bool.true_and]
  ·refine AW.exit ?_
   simp only [zs, simprocAttr]
   all_goals apply_assumption
   refine AW.sr trivial ?_
   refine AW.ret ?_
   simp only [zs, simprocAttr]
   have hi : l.length ≤ i := by simpa using hc
   rw [hp, List.drop_of_length_le hi, List.drop_of_length_le (by omega), allEq]
theorem rsameC (l r : List Cnd) (hl : l.length < 4611686018427387904) : PCalls Tryz.prog 60 [.sl (l.map encC), .sl (r.map encC)] (fun v => v = .c (.bool (allEq eqC l r))) := by
 refine PCalls.intro Tryz.call60 Tryz.func60 rfl Tryz.ntmps60 Tryz.results60 (by simp) ?_
 refine AW.sr trivial ?_
 refine AW.seq_k fun K2 h2 => ?_
 refine AW.sr trivial ?_
 refine AW.cond (b := ((l.length : Int) != r.length)) (by simp [ev]) (fun hc => ?_) (fun hc => ?_)
 ·refine AW.sr trivial ?_
  refine AW.ret ?_
  simp only [zs, simprocAttr]
  rw [allEq_len (by simp at hc; omega)]
 ·refine AW.skip ?_
  simp only [zs, simprocAttr]
  all_goals apply_assumption
  have hlr : l.length = r.length := by simp at hc; omega
  refine AW.seq_k fun K5 h5 => ?_
  refine AW.sr trivial ?_
  refine AW.block ?_   -- 0
  refine AW.loop (fun m s σ => σ = Hp.empty ∧ ∃ i : Nat, m + i = l.length ∧ s.t 0 = .sl (l.map encC) ∧ s.t 1 = .sl (r.map encC) ∧ s.t 5 = .c (.int .i64 i) ∧ allEq eqC l r = allEq eqC (l.drop i) (r.drop i)) l.length ?_ ?_
  ·refine ⟨rfl, 0, by simp, ?_⟩
   simp only [zs, simprocAttr]
   simp
  rintro m s σ ⟨rfl, i, hm, e0, e1, e5, hp⟩
  refine AW.seq_k fun K7 h7 => ?_
  all_goals refine AW.sr (J2 e5 e0) ?_
  refine AW.cond (b := decide (i < l.length)) (by simp [ev]) (fun hc => ?_) (fun hc => ?_)
  ·refine AW.skip ?_
   simp only [zs, simprocAttr]
   all_goals apply_assumption
   have hi : i < l.length := by simpa using hc
   have hj : i < r.length := by omega
   have hg := getD_map (f := encC) hi
   have hg2 := getD_map (f := encC) hj
   have hd : l.drop i = l[i] :: l.drop (i + 1) := List.drop_eq_getElem_cons hi
   have hd2 : r.drop i = r[i] :: r.drop (i + 1) := List.drop_eq_getElem_cons hj
   generalize ha : l[i] = a at hg hd
   generalize hb : r[i] = b at hg2 hd2
   rw [hd, hd2, allEq] at hp
   have hw := wadd1 (a := i) (by omega)
   refine AW.seq_k fun K9 h9 => ?_
   refine AW.block ?_   -- 1
   refine AW.seq_k fun K10 h10 => ?_
   refine AW.draw (T := { sd := fun _ => false, eqk := eqTab2 }) (eqTab2_ok) mixedO [(0, 0), (1, 0), (2, 0), (4, 0), (5, 0), (6, 0), (3, 1), (7, 1), (8, 0)] rfl (by kernel_rfl) (by kernel_rfl) ?_
   have q1q := J12 e0 e1 e5 hi hj hg hg2 @encC.eq_1 @encO.eq_1 @kC.eq_1 @List.length_map.{0,0} (J2 @List.cons_append.{0} @List.nil_append.{0})
   iterate 6 refine D.one q1q ?_
   iterate 2 refine D.one q1q ?_
   refine D.one (J12 @eqk47 @fitsAll.eq_1 @fitsAll.eq_2 @fitsAll.eq_3 @SK.fits.eq_1 @SK.fits.eq_2 @SK.fits.eq_3 @SK.fits.eq_4 @cellsEq.eq_1 @cellsEq.eq_2 @cellsEq.eq_3 (J12 @cellEq.eq_1 @cellEq.eq_2 @cellEq.eq_3 @cellEq.eq_4 e0 e1 e5 hi hj hg hg2 (J6 @encC.eq_1 @encO.eq_1 @kC.eq_1 @List.length_map.{0,0} @List.cons_append.{0} @List.nil_append.{0}))) ?_
   (refine D.nil ?_; apply_assumption)
   refine AW.cond (b := !eqC a b) (by simp only [ev, St.put_t, Nat.reduceEqDiff, if_true]; rfl) (fun hc => ?_) (fun hc => ?_)
   ·refine AW.sr trivial ?_
    refine AW.ret ?_
    simp only [zs, simprocAttr]
    have hx : eqC a b = false := by simpa using hc
    simp [hp, hx]
   ·refine AW.skip ?_
    simp only [zs, simprocAttr]
    all_goals apply_assumption
    have hx : eqC a b = true := by simpa using hc
    refine AW.reg0 (S.rn (J2 e5 hw) ?_)
    simp only [ze, simprocAttr, e5, hw]
    refine ⟨m - 1, by omega, i + 1, by omega, e0, e1, rfl, ?_⟩
    rw [hp, hx, Bool.true_and]
  ·refine AW.exit ?_
   simp only [zs, simprocAttr]
   all_goals apply_assumption
   refine AW.sr trivial ?_
   refine AW.ret ?_
   simp only [zs, simprocAttr]
   have hi : l.length ≤ i := by simpa using hc
   rw [hp, List.drop_of_length_le hi, List.drop_of_length_le (by omega), allEq]
theorem equalI (l r : List Int) (hl : l.length < 4611686018427387904) : PCalls Tryz.prog 19 [.sl (l.map encI), .sl (r.map encI)] (fun v => v = .c (.bool (allEq eqI l r))) := by
 refine PCalls.intro Tryz.call19 Tryz.func19 rfl Tryz.ntmps19 Tryz.results19 (by simp) ?_
 refine AW.sr trivial ?_
 refine AW.seq_k fun K2 h2 => ?_
 refine AW.sr trivial ?_
 refine AW.cond (b := ((l.length : Int) != r.length)) (by simp [ev]) (fun hc => ?_) (fun hc => ?_)
 ·refine AW.sr trivial ?_
  refine AW.ret ?_
  simp only [zs, simprocAttr]
  rw [allEq_len (by simp at hc; omega)]
 ·refine AW.skip ?_
  simp only [zs, simprocAttr]
  all_goals apply_assumption
  have hlr : l.length = r.length := by simp at hc; omega
  refine AW.seq_k fun K5 h5 => ?_
  refine AW.sr @List.length_map.{0,0} ?_
  refine AW.block ?_   -- 0
  refine AW.loop (fun m s σ => σ = Hp.empty ∧ ∃ i : Nat, m + i = l.length ∧ s.t 0 = .sl (l.map encI) ∧ s.t 1 = .sl (r.map encI) ∧ s.t 12 = .c (.int .i64 (l.length : Nat)) ∧ s.t 13 = .c (.int .i64 (i : Nat)) ∧ allEq eqI l r = allEq eqI (l.drop i) (r.drop i)) l.length ?_ ?_
  ·refine ⟨rfl, 0, by simp, ?_⟩
   simp only [zs, simprocAttr]
   simp
  rintro m s σ ⟨rfl, i, hm, e0, e1, e12, e13, hp⟩
  all_goals refine AW.sr (J2 e12 e13) ?_
  refine AW.seq_k fun K8 h8 => ?_
  refine AW.cond (b := decide (i < l.length)) (by simp [ev]) (fun hc => ?_) (fun hc => ?_)
  ·refine AW.skip ?_
   simp only [zs, simprocAttr]
   all_goals apply_assumption
   have hi : i < l.length := by simpa using hc
   have hj : i < r.length := by omega
   have hg := getD_map (f := encI) hi
   have hg2 := getD_map (f := encI) hj
   have hd : l.drop i = l[i] :: l.drop (i + 1) := List.drop_eq_getElem_cons hi
   have hd2 : r.drop i = r[i] :: r.drop (i + 1) := List.drop_eq_getElem_cons hj
   generalize ha : l[i] = a at hg hd
   generalize hb : r[i] = b at hg2 hd2
   rw [hd, hd2, allEq] at hp
   have hw := wadd1 (a := i) (by omega)
   refine AW.seq_k fun K9 h9 => ?_
   refine AW.block ?_   -- 1
   refine AW.sr e13 ?_
   refine AW.seq_k fun K11 h11 => ?_
   refine AW.dw [(0,0),(1,0),(2,0),(4,0),(5,0),(6,0),(3,1),(7,1),(8,0)] ?_
   have q1q := J9 e0 e1 e13 hi hj hg hg2 @encI.eq_1 @List.length_map.{0,0}
   iterate 6 refine D.one q1q ?_
   iterate 2 refine D.one q1q ?_
   refine D.one q1q ?_
   (refine D.nil ?_; apply_assumption)
   refine AW.cond (b := !eqI a b) (by simp [ev, eqI, bne]) (fun hc => ?_) (fun hc => ?_)
   ·refine AW.sr trivial ?_
    refine AW.ret ?_
    simp only [zs, simprocAttr]
    have hx : eqI a b = false := by simpa using hc
    simp [hp, hx]
   ·refine AW.skip ?_
    simp only [zs, simprocAttr]
    all_goals apply_assumption
    have hx : eqI a b = true := by simpa using hc
    refine AW.reg0 (S.rn (J3 e12 e13 hw) ?_)
    simp only [ze, simprocAttr, e12, e13, hw]
    refine ⟨m - 1, by omega, i + 1, by omega, e0, e1, ?_⟩
    rw [hp, hx, Bool.true_and]
    all_goals ((try and_intros) <;> first | rfl | assumption | (rfl))
  ·refine AW.exit ?_
   simp only [zs, simprocAttr]
   all_goals apply_assumption
   refine AW.sr trivial ?_
   refine AW.ret ?_
   simp only [zs, simprocAttr]
   have hi : l.length ≤ i := by simpa using hc
   rw [hp, List.drop_of_length_le hi, List.drop_of_length_le (by omega), allEq]
end Go.Abs.M
namespace Go.Abs.M
open Go Go.Abs Go.Proofs
set_option maxRecDepth 20000
theorem lessS_spec (a b : ByteArray) : PCalls Tryz.prog 213 [.c (.string a), .c (.string b)] (fun v => v = .c (.bool (Op.bytesLess a.toList b.toList))) := by
 refine PCalls.intro Tryz.call213 Tryz.func213 rfl Tryz.ntmps213 Tryz.results213 (by simp) ?_
 refine AW.sr trivial ?_
 refine AW.seq_k fun K2 h2 => ?_
 refine AW.reg0 ?_
 refine S.one trivial ?_
 (refine S.g rfl rfl fun Y Z => ?_; simp only [zz, simprocAttr, -Int.reduceNatCast', -Int.reduceToNat]; refine PCalls.eqto (isnan_spec _) ?_; refine S.bool fun b a6 => ?_; cases b <;> (try exact nope a6) <;> (refine Z _ _ ?_; clear Z Y))
 all_goals iterate 2 refine S.one trivial ?_
 all_goals (first | (refine S.y rfl rfl rfl rfl fun Y Z => ?_; simp only [zz, simprocAttr, -Int.reduceNatCast', -Int.reduceToNat]; refine PCalls.eqto (isnan_spec _) ?_; refine S.bool fun b a9 => ?_; cases b <;> (try exact nope a9) <;> (refine Z _ _ ?_; clear Z Y)) | ((first | refine S.x rfl rfl rfl rfl fun Y Z => ?_ | refine S.u rfl rfl rfl rfl fun Y Z => ?_); simp only [ze, simprocAttr, -Int.reduceNatCast', -Int.reduceToNat]; refine Z _ _ ?_; clear Z Y))
 all_goals iterate 8 refine S.one trivial ?_
 all_goals (refine S.nil ?_; simp only [ze, simprocAttr]; apply_assumption)
 refine AW.ret ?_
 all_goals simp only [zs, simprocAttr]
 all_goals simp
def hpZ (k : Nat) (l : List ByteArray) : Hp := Hp.empty.setGr k (some ((9, 1), l.map encS))
theorem perm_swap {l : List ByteArray} {j : Nat} {x y : ByteArray} (h : 0 < j) (hx : l[j]? = some x) (hy : l[j-1]? = some y) : ((l.set j y).set (j - 1) x).Perm l := by
 have hj : j < l.length := (List.getElem?_eq_some_iff.1 hx).1
 have e1 : l[j] = x := (List.getElem?_eq_some_iff.1 hx).2
 have e2 : l[j-1]'(by omega) = y := by
  have := (List.getElem?_eq_some_iff.1 hy).2; exact this
 rw [← e1, ← e2]
 exact List.set_set_perm hj (by omega)
theorem insortS_spec (l : List ByteArray) (k lo hi : Nat) (hlo : lo ≤ hi) (hhi : hi ≤ l.length) (hn : l.length < 4611686018427387904) :
    ACalls Tryz.prog 207 [.gl k, .c (.int .i64 lo), .c (.int .i64 hi)] (hpZ k l) (fun v σ' => v = .tup [] ∧ ∃ l', l'.Perm l ∧ σ' = hpZ k l') := by
  refine ACalls.intro Tryz.call207 Tryz.func207 rfl Tryz.ntmps207 Tryz.results207 (by simp) ?_
  have hw1 : IntKind.i64.wrap ((lo : Int) + 1) = ((lo + 1 : Nat) : Int) := by rw [wrap_small _ (by omega) (by omega)]; rfl
  refine AW.sr hw1 ?_
  refine AW.block ?_   -- 0
  refine AW.loop (fun m s σ => ∃ i l', m + i = hi + 1 + lo ∧ lo + 1 ≤ i ∧ s.t 0 = .gl k ∧ s.t 1 = .c (.int .i64 lo) ∧ s.t 2 = .c (.int .i64 hi) ∧ s.t 6 = .c (.int .i64 (i : Nat)) ∧
    σ = hpZ k l' ∧ l'.Perm l) hi ?_ ?_
  · refine ⟨lo + 1, l, by omega, Nat.le_refl _, ?_⟩
    simp only [zs, simprocAttr]
    simp
  rintro m s σ ⟨i, l', hm, hi1, e0, e1, e2, e6, rfl, hl'⟩
  have hll := hl'.length_eq
  refine AW.seq_k fun K2 h2 => ?_
  refine AW.sr (J2 e2 e6) ?_
  refine AW.cond (b := decide (i < hi)) (by simp [ev]) (fun hc => ?_) (fun hc => ?_)
  · refine AW.skip ?_
    simp only [zs, simprocAttr]
    all_goals apply_assumption
    have hih : i < hi := by simpa using hc
    refine AW.seq_k fun K4 h4 => ?_
    refine AW.block ?_   -- 1
    refine AW.sr e6 ?_
    refine AW.block ?_   -- 2
    refine AW.loop (fun m s σ => ∃ j l2, m = j ∧ j ≤ i ∧ s.t 0 = .gl k ∧ s.t 1 = .c (.int .i64 lo) ∧ s.t 2 = .c (.int .i64 hi) ∧ s.t 6 = .c (.int .i64 (i : Nat)) ∧ s.t 7 = .c (.int .i64 (j : Nat)) ∧
      σ = hpZ k l2 ∧ l2.Perm l) i ?_ ?_
    · refine ⟨i, l', rfl, Nat.le_refl _, ?_⟩
      simp only [zs, simprocAttr]
      refine ⟨e0, e1, e2, e6, hl'⟩
    rintro j s2 σ2 ⟨_, l2, rfl, hji, f0, f1, f2, f6, f7, rfl, hl2⟩
    have hl2l := hl2.length_eq
    refine AW.seq_k fun K6 h6 => ?_
    refine AW.seq_j (fun s' σ' => σ' = hpZ k l2 ∧ s'.t 0 = .gl k ∧ s'.t 1 = .c (.int .i64 lo) ∧ s'.t 2 = .c (.int .i64 hi) ∧ s'.t 6 = .c (.int .i64 (i : Nat)) ∧ s'.t 7 = .c (.int .i64 (j : Nat)) ∧
      ∃ b, s'.t 30 = .c (.bool b) ∧ (b = true → lo < j ∧ ∃ x y : ByteArray, l2[j]? = some x ∧ l2[j-1]? = some y)) ?_ ?_
    · have hpb : (hpZ k l2).gr k = some ((9, 1), l2.map encS) := by simp [hpZ]
      by_cases hlj : lo < j
      · have hj1 : j < l2.length := by omega
        have hj2 : j - 1 < l2.length := by omega
        have hg1 := getD_map (f := encS) hj1
        have hg2 := getD_map (f := encS) hj2
        have hx : l2[j]? = some l2[j] := List.getElem?_eq_getElem hj1
        have hy : l2[j-1]? = some l2[j-1] := List.getElem?_eq_getElem hj2
        generalize l2[j] = x at hg1 hx
        generalize l2[j-1] = y at hg2 hy
        have hw : IntKind.i64.wrap ((j : Int) - 1) = ((j - 1 : Nat) : Int) := by rw [wrap_small _ (by omega) (by omega)]; omega
        generalize hsg : hpZ k l2 = σ0 at hpb ⊢
        refine AW.draw2 (T := { sd := fun _ => false }) (fun _ _ h => by cases h) mixedO [(0, 0), (1, 0), (2, 0), (3, 0), (4, 0), (5, 0), (6, 0), (8, 0), (9, 0), (10, 0), (11, 0)] 7 12 [(13, 2), (14, 0)] #[true, true, true, true, true, true, true, false, true, true, true, true, false, false, false] rfl (by kernel_rfl) (by kernel_rfl) (by kernel_rfl) (by kernel_rfl) (by kernel_rfl) ?_
        all_goals have q1q := J10 f0 f1 f7 hpb hj1 hj2 hg1 hg2 hw @encS.eq_1
        all_goals iterate 2 refine D.one q1q ?_
        all_goals (refine D.sp q1q fun b a18 => ?_; cases b <;> (try exact nope a18))
        all_goals iterate 8 refine D.one q1q ?_
        all_goals refine D.nil ⟨?_, ?_⟩
        all_goals iterate 2 refine D.one q1q ?_
        all_goals have q2q := J10 f0 f1 f7 hpb hj1 hj2 hg1 hg2 hw @encS.eq_1
        all_goals (first | (refine D.y rfl trivial rfl rfl rfl rfl fun Y Z => ?_; simp only [zz, simprocAttr, -Int.reduceNatCast', -Int.reduceToNat, q2q]; refine PCalls.eqto (lessS_spec x y) ?_ <;> (refine Z _ _ ?_; clear Z Y)) | ((first | refine D.x rfl (fun h => by cases h) rfl rfl rfl rfl fun Y Z => ?_ | refine D.u rfl (fun h => by cases h) rfl rfl rfl rfl fun Y Z => ?_); simp only [ze, simprocAttr, -Int.reduceNatCast', -Int.reduceToNat]; refine Z _ _ ?_; clear Z Y))
        all_goals refine D.one q2q ?_
        all_goals refine D.nil ?_
        all_goals simp only [ze, simprocAttr, q2q]
        all_goals exact ⟨f2, f6, _, rfl, fun h => ⟨hlj, x, y, hx, hy⟩⟩
      · generalize hsg : hpZ k l2 = σ0 at hpb ⊢
        refine AW.draw2 (T := { sd := fun _ => false }) (fun _ _ h => by cases h) mixedO [(0, 0), (1, 0), (2, 0), (3, 0), (4, 0), (5, 0), (6, 0), (8, 0), (9, 0), (10, 0), (11, 0)] 7 12 [(13, 2), (14, 0)] #[true, true, true, true, true, true, true, false, true, true, true, true, false, false, false] rfl (by kernel_rfl) (by kernel_rfl) (by kernel_rfl) (by kernel_rfl) (by kernel_rfl) ?_
        all_goals iterate 2 refine D.one (J3 f0 f1 f7) ?_
        all_goals (refine D.sp (J3 f0 f1 f7) fun b a18 => ?_; cases b <;> (try exact nope a18))
        all_goals iterate 8 refine D.one (J3 f0 f1 f7) ?_
        all_goals refine D.nil ⟨?_, ?_⟩
        all_goals iterate 2 refine D.one (J3 f0 f1 f7) ?_
        all_goals (first | (refine D.y rfl trivial rfl rfl rfl rfl fun Y Z => ?_; simp only [zz, simprocAttr, -Int.reduceNatCast', -Int.reduceToNat, f0, f1, f7]; refine PCalls.eqto (lessS_spec x y) ?_ <;> (refine Z _ _ ?_; clear Z Y)) | ((first | refine D.x rfl (fun h => by cases h) rfl rfl rfl rfl fun Y Z => ?_ | refine D.u rfl (fun h => by cases h) rfl rfl rfl rfl fun Y Z => ?_); simp only [ze, simprocAttr, -Int.reduceNatCast', -Int.reduceToNat]; refine Z _ _ ?_; clear Z Y))
        all_goals refine D.one (J3 f0 f1 f7) ?_
        all_goals refine D.nil ?_
        all_goals simp only [ze, simprocAttr, f0, f1, f7]
        all_goals exact ⟨f2, f6, _, rfl, (fun h => by cases h)⟩
    rintro s3 σ3 ⟨rfl, g0, g1, g2, g6, g7, b, g30, hbt⟩
    refine AW.cond (b := b) g30 (fun hb => AW.skip ?_) (fun hb => AW.exit ?_)
    · simp only [zs, simprocAttr]
      all_goals apply_assumption
      obtain ⟨hlj, x, y, hx, hy⟩ := hbt hb
      have hj1 : j < l2.length := (List.getElem?_eq_some_iff.1 hx).1
      have hj2 : j - 1 < l2.length := by omega
      have hg1 : (l2.map encS).getD j [] = encS x := by rw [getD_map hj1, (List.getElem?_eq_some_iff.1 hx).2]
      have hg2 : (l2.map encS).getD (j - 1) [] = encS y := by rw [getD_map hj2, (List.getElem?_eq_some_iff.1 hy).2]
      have hgs : ∀ v, ((l2.map encS).set j v).getD (j - 1) [] = encS y := fun v => by
        rw [← hg2]; simp [List.getD, List.getElem?_set, show j ≠ j - 1 by omega]
      have hw : IntKind.i64.wrap ((j : Int) - 1) = ((j - 1 : Nat) : Int) := by rw [wrap_small _ (by omega) (by omega)]; omega
      have hpb : hpZ k l2 = Hp.empty.setGr k (some ((9, 1), l2.map encS)) := rfl
      rw [hpb]
      refine AW.seq_k fun K7 h7 => ?_
      refine AW.block ?_   -- 3
      refine AW.mono (Q := thenS (fun s' σ' => σ' = hpZ k ((l2.set j y).set (j - 1) x) ∧ s'.t 0 = .gl k ∧ s'.t 1 = .c (.int .i64 lo) ∧ s'.t 2 = .c (.int .i64 hi) ∧ s'.t 6 = .c (.int .i64 (i : Nat)) ∧ s'.t 7 = .c (.int .i64 (j : Nat))) (fun _ _ _ => False)) ?_ ?_
      · skip
        refine AW.draw2 (T := { sd := fun _ => false }) (fun _ _ h => by cases h) mixedO [(0, 0), (1, 0), (2, 0), (3, 0), (4, 0), (5, 0), (6, 0), (7, 0), (8, 0), (10, 0), (11, 0), (12, 0)] 9 13 [(14, 0), (15, 2), (16, 0), (17, 2)] #[true, true, true, true, true, true, true, true, true, false, true, true, true, false, false, false, false, false] rfl (by kernel_rfl) (by kernel_rfl) (by kernel_rfl) (by kernel_rfl) (by kernel_rfl) ?_
        all_goals have q3q := J12 g0 g1 g2 g6 g7 hj1 hj2 hg1 hg2 hgs hw (J2 @encS.eq_1 @List.length_set.{0})
        all_goals iterate 12 refine D.one q3q ?_
        all_goals refine D.nil ⟨?_, ?_⟩
        all_goals iterate 6 refine D.one q3q ?_
        all_goals refine D.nil ?_
        all_goals simp only [ze, simprocAttr, q3q]
        all_goals simp [hpZ, encS, List.map_set]
      rintro e s4 σ4 hq
      cases e with
      | normal =>
        obtain ⟨rfl, q0, q1, q2, q6, q7⟩ := hq
        simp only [zs, simprocAttr]
        all_goals apply_assumption
        refine AW.reg0 (S.rn (J2 q7 hw) ?_)
        simp only [ze, simprocAttr, q7, hw]
        refine ⟨j - 1, by omega, j - 1, (l2.set j y).set (j - 1) x, rfl, by omega, q0, q1, q2, q6, rfl, rfl, (perm_swap (by omega) hx hy).trans hl2⟩
      | _ => exact hq.elim
    · simp only [zs, simprocAttr]
      all_goals apply_assumption
      have hw : IntKind.i64.wrap ((i : Int) + 1) = ((i + 1 : Nat) : Int) := by rw [wrap_small _ (by omega) (by omega)]; rfl
      refine AW.reg0 (S.rn (J2 g6 hw) ?_)
      simp only [ze, simprocAttr, g6, hw]
      refine ⟨m - 1, by omega, i + 1, l2, by omega, by omega, g0, g1, g2, rfl, rfl, hl2⟩
  · refine AW.exit ?_
    simp only [zs, simprocAttr]
    -- EXIT 0
    exact ⟨rfl, l', hl', rfl⟩
def blen2 (x : Nat) : Nat := if x = 0 then 0 else if x = 1 then 1 else 2
def tabOk2 (l : List UInt8) : Bool := (List.range 3).all fun x => decide (x < l.length) && (l.getD x 0).toNat == blen2 x
theorem tabU1 {x : Nat} (hx : x < 3) (l : List UInt8) (hl : tabOk2 l = true) : (x : Int) < ((ByteArray.mk l.toArray).size : Int) := by
 have := List.all_eq_true.1 hl x (List.mem_range.2 hx)
 simp only [Bool.and_eq_true, decide_eq_true_eq] at this
 exact Int.ofNat_lt.2 (show x < (ByteArray.mk l.toArray).size by simpa [ByteArray.size] using this.1)
theorem tabU2 {x : Nat} (hx : x < 3) (l : List UInt8) (hl : tabOk2 l = true) : (l.toArray.getD x 0).toNat = blen2 x := by
 have := List.all_eq_true.1 hl x (List.mem_range.2 hx)
 simp only [Bool.and_eq_true, beq_iff_eq] at this
 simpa [List.getD] using this.2
theorem blen2_le (x : Nat) : blen2 x ≤ 2 := by unfold blen2; repeat' split
                                               all_goals omega
theorem len64_2 (x : Nat) (hx : x < 3) : PCalls Tryz.prog 202 [.c (.int .u64 x)] (fun v => v = .c (.int .i64 (blen2 x))) := by
 refine PCalls.intro Tryz.call202 Tryz.func202 rfl Tryz.ntmps202 Tryz.results202 (by simp) ?_
 refine AW.sr trivial ?_
 refine AW.seq_k fun K2 h2 => ?_
 refine AW.sr trivial ?_
 have n1 : ¬ (4294967296 : Int) ≤ x := by omega
 have n2 : ¬ (65536 : Int) ≤ x := by omega
 have n3 : ¬ (256 : Int) ≤ x := by omega
 refine AW.cond (b := decide ((4294967296 : Int) ≤ x)) (by simp [ev]) (fun hc => absurd (of_decide_eq_true hc) n1) (fun hc => ?_)
 refine AW.skip ?_
 simp only [zs, simprocAttr]
 all_goals apply_assumption
 refine AW.seq_k fun K4 h4 => ?_
 refine AW.sr trivial ?_
 refine AW.cond (b := decide ((65536 : Int) ≤ x)) (by simp [ev]) (fun hc => absurd (of_decide_eq_true hc) n2) (fun hc => ?_)
 refine AW.skip ?_
 simp only [zs, simprocAttr]
 all_goals apply_assumption
 refine AW.seq_k fun K6 h6 => ?_
 refine AW.sr trivial ?_
 refine AW.cond (b := decide ((256 : Int) ≤ x)) (by simp [ev]) (fun hc => absurd (of_decide_eq_true hc) n3) (fun hc => ?_)
 refine AW.skip ?_
 simp only [zs, simprocAttr]
 all_goals apply_assumption
 have hwx : IntKind.u8.wrap (x : Int) = x := by unfold IntKind.wrap; simp [IntKind.signed, IntKind.bits]; omega
 have hbl := blen2_le x
 have hwb : IntKind.i64.wrap (blen2 x : Int) = blen2 x := wrap_small _ (by omega) (by omega)
 have hwn : IntKind.i64.wrap (0 + (blen2 x : Int)) = ((blen2 x : Nat) : Int) := by rw [wrap_small _ (by omega) (by omega)]; omega
 refine AW.seq_k fun K8 h8 => ?_
 refine AW.reg0 ?_
 iterate 3 refine S.one (J3 hwx hwb hwn) ?_
 have q1q := J3 hwx hwb hwn
 (refine S.g rfl rfl fun Y Z => ?_; simp only [zz, simprocAttr, -Int.reduceNatCast', -Int.reduceToNat, tt, q1q]; (first | (refine ⟨Int.ofNat_lt.1 (tabU1 hx _ (by decide +kernel)), ?_⟩; rw [tabU2 hx]; rotate_left; decide +kernel) | (refine ⟨tabU1 hx _ (by decide +kernel), ?_⟩; rw [tabU2 hx]; rotate_left; decide +kernel)) <;> (refine Z _ _ ?_; clear Z Y))
 all_goals iterate 3 refine S.one q1q ?_
 all_goals (refine S.nil ?_; simp only [ze, simprocAttr, q1q]; apply_assumption)
 refine AW.ret ?_
 all_goals simp only [zs, simprocAttr]
theorem len_2 (x : Nat) (hx : x < 3) : PCalls Tryz.prog 173 [.c (.int .u64 x)] (fun v => v = .c (.int .i64 (blen2 x))) := by
 refine PCalls.intro Tryz.call173 Tryz.func173 rfl Tryz.ntmps173 Tryz.results173 (by simp) ?_
 refine AW.sr trivial ?_
 refine AW.seq_k fun K2 h2 => ?_
 refine AW.cond (b := false) rfl (fun hc => by cases hc) (fun hc => ?_)
 refine AW.skip ?_
 all_goals simp only [zs, simprocAttr]
 all_goals apply_assumption
 refine AW.seq_k fun K3 h3 => ?_
 all_goals refine AW.reg0 ?_
 all_goals refine S.one trivial ?_
 all_goals (refine S.g rfl rfl fun Y Z => ?_; simp only [zz, simprocAttr, -Int.reduceNatCast', -Int.reduceToNat]; refine PCalls.eqto (len64_2 _ hx) ?_ <;> (refine Z _ _ ?_; clear Z Y))
 all_goals refine S.one trivial ?_
 all_goals (refine S.nil ?_; simp only [ze, simprocAttr]; apply_assumption)
 refine AW.ret ?_
 all_goals simp only [zs, simprocAttr]
theorem pdqS_spec (l : List ByteArray) (k : Nat) (lim : Int) (hn : l.length < 3) :
  ACalls Tryz.prog 181 [.gl k, .c (.int .i64 0), .c (.int .i64 (l.length : Nat)), .c (.int .i64 lim)] (hpZ k l) (fun v σ' => v = .tup [] ∧ ∃ l', l'.Perm l ∧ σ' = hpZ k l') := by
 refine ACalls.intro Tryz.call181 Tryz.func181 rfl Tryz.ntmps181 Tryz.results181 (by simp) ?_
 refine AW.sr trivial ?_
 refine AW.sr trivial ?_
 refine AW.block ?_   -- 0
 refine AW.loop (fun m s σ => s.t 0 = .gl k ∧ s.t 1 = .c (.int .i64 0) ∧ s.t 2 = .c (.int .i64 (l.length : Nat)) ∧ σ = hpZ k l) 0 ?_ ?_
 ·simp only [zs, simprocAttr]
  all_goals ((try and_intros) <;> first | rfl | assumption | (rfl))
 rintro m s σ ⟨e0, e1, e2, rfl⟩
 refine AW.block ?_   -- 1
 have hw : IntKind.i64.wrap ((l.length : Int) - 0) = ((l.length : Nat) : Int) := by rw [wrap_small _ (by omega) (by omega)]; omega
 all_goals refine AW.sr (J3 e1 e2 hw) ?_
 refine AW.seq_k fun K4 h4 => ?_
 all_goals refine AW.sr trivial ?_
 refine AW.cond (b := decide ((l.length : Int) ≤ 12)) (by simp [ev]) (fun hc => ?_) (fun hc => absurd (of_decide_eq_false hc) (by omega))
 refine AW.seq_k fun K6 h6 => ?_
 all_goals refine AW.reg0 ?_
 all_goals iterate 3 refine S.one (J3 e0 e1 e2) ?_
 all_goals (refine S.g rfl rfl fun Y Z => ?_; simp only [zz, simprocAttr, -Int.reduceNatCast', -Int.reduceToNat, e0, e1, e2]; (refine ACalls.to (insortS_spec l k 0 l.length (by omega) (by omega) (by omega)) ?_; rintro v1 σ1 ⟨rfl, l1, hl1, rfl⟩) <;> (refine Z _ _ ?_; clear Z Y))
 all_goals (refine S.nil ?_; simp only [ze, simprocAttr, e0, e1, e2]; apply_assumption)
 refine AW.ret ?_
 all_goals simp only [zs, simprocAttr]
 exact ⟨rfl, l1, hl1, rfl⟩
theorem sortS_spec (l : List ByteArray) (k : Nat) (hn : l.length < 3) :
  ACalls Tryz.prog 157 [.gl k] (hpZ k l) (fun v σ' => v = .tup [] ∧ ∃ l', l'.Perm l ∧ σ' = hpZ k l') := by
 refine ACalls.intro Tryz.call157 Tryz.func157 rfl Tryz.ntmps157 Tryz.results157 (by simp) ?_
 have hpb : (hpZ k l).gr k = some ((9, 1), l.map encS) := by simp [hpZ]
 have hwu : IntKind.u64.wrap (l.length : Int) = ((l.length : Nat) : Int) := by unfold IntKind.wrap; simp [IntKind.signed, IntKind.bits]; omega
 refine AW.sr (J2 hpb @List.length_map.{0,0}) ?_
 refine AW.reg0 ?_
 iterate 4 refine S.one hwu ?_
 (refine S.g rfl rfl fun Y Z => ?_; simp only [zz, simprocAttr, -Int.reduceNatCast', -Int.reduceToNat, hwu]; refine PCalls.eqto (len_2 l.length hn) ?_ <;> (refine Z _ _ ?_; clear Z Y))
 all_goals (refine S.g rfl rfl fun Y Z => ?_; simp only [zz, simprocAttr, -Int.reduceNatCast', -Int.reduceToNat, hwu]; (refine ACalls.to (pdqS_spec l k _ hn) ?_; rintro v1 σ1 ⟨rfl, l1, hl1, rfl⟩) <;> (refine Z _ _ ?_; clear Z Y))
 all_goals refine S.nil ?_
 all_goals simp only [ze, simprocAttr, hwu]
 exact ⟨rfl, l1, hl1, rfl⟩
theorem len_strs (l : List ByteArray) : ∀ (e : List V), e ∈ l.map encS → e.length = 1 := fun e he => by
 obtain ⟨a, _, rfl⟩ := List.mem_map.1 he; rfl
theorem encS_ext {a b : ByteArray} (h : (a.toList == b.toList) = true) : a = b := by
 exact eqS_iff.1 h
theorem compactS_spec (l : List ByteArray) (k : Nat) (hn : l.length < 3) :
  ACalls Tryz.prog 158 [.gl k] (hpZ k l) (fun v σ' => ∃ k' l', v = .gl k' ∧ (∀ x, x ∈ l' ↔ x ∈ l) ∧ l'.length ≤ l.length ∧ σ' = hpZ k' l') := by
 have ho : (hpZ k l).gr k = some ((9, 1), l.map encS) := by simp [hpZ]
 refine ACalls.intro Tryz.call158 Tryz.func158 rfl Tryz.ntmps158 Tryz.results158 (by simp) ?_
 refine AW.sr trivial ?_
 refine AW.seq_k fun K2 h2 => ?_
 refine AW.sr (J2 ho @List.length_map.{0,0}) ?_
 refine AW.cond (b := decide ((l.length : Int) < 2)) (by simp [ev]) (fun h2 => ?_) (fun h2 => ?_)
 ·refine AW.sr trivial ?_
  refine AW.ret ?_
  simp only [zs, simprocAttr]
  exact ⟨k, l, rfl, (fun x => Iff.rfl), Nat.le_refl _, rfl⟩
 have h2 : l.length = 2 := by have := of_decide_eq_false h2; omega
 obtain ⟨x, y, hxy⟩ : ∃ x y, l = [x, y] := by
  match l, h2 with | [x, y], _ => exact ⟨x, y, rfl⟩
 have hg1 : (l.map encS).getD 1 [] = encS y := by rw [hxy]; rfl
 have hg2 : (l.map encS).getD 0 [] = encS x := by rw [hxy]; rfl
 refine AW.skip ?_
 all_goals simp only [zs, simprocAttr]
 all_goals apply_assumption
 refine AW.seq_k fun K5 h5 => ?_
 all_goals refine AW.sr trivial ?_
 refine AW.block ?_   -- 0
 refine AW.loop (fun m s σ => ∃ i : Nat, m + i = 2 ∧ 1 ≤ i ∧ s.t 0 = .gl k ∧ s.t 3 = .c (.int .i64 (i : Nat)) ∧ σ = hpZ k l) 1 ?_ ?_
 ·refine ⟨1, by omega, by omega, ?_⟩
  simp only [zs, simprocAttr]
  all_goals ((try and_intros) <;> first | rfl | assumption | (rfl))
 rintro m s σ ⟨i, hm, hi1, e0, e3, rfl⟩
 refine AW.seq_k fun K7 h7 => ?_
 all_goals refine AW.sr (J5 ho e0 e3 @List.length_map.{0,0} h2) ?_
 refine AW.cond (b := decide (i < 2)) (by simp [ev]) (fun hi => ?_) (fun hi => ?_)
 ·have hi := of_decide_eq_true hi
  obtain rfl : i = 1 := by omega
  have hw : IntKind.i64.wrap (((1 : Nat) : Int) + 1) = ((2 : Nat) : Int) := by decide
  have hws : IntKind.i64.wrap (((1 : Nat) : Int) - 1) = ((0 : Nat) : Int) := by decide
  have hj1 : 1 < l.length := by omega
  have hj2 : 0 < l.length := by omega
  refine AW.skip ?_
  simp only [zs, simprocAttr]
  all_goals apply_assumption
  refine AW.seq_k fun K9 h9 => ?_
  refine AW.block ?_   -- 1
  refine AW.seq_j (fun s' σ' => σ' = hpZ k l ∧ s'.t 0 = .gl k ∧ s'.t 3 = .c (.int .i64 (1 : Nat)) ∧ s'.t 25 = .c (.bool (y.toList == x.toList))) ?_ ?_
  ·generalize hsg : hpZ k l = σ1 at ho ⊢
   refine AW.draw2 (T := { sd := fun _ => false }) (fun _ _ h => by cases h) mixedO [(0, 0), (1, 0), (2, 0), (4, 0), (5, 0), (6, 0), (7, 0)] 3 8 [(9, 0)] #[true, true, true, false, true, true, true, true, false, false] rfl (by kernel_rfl) (by kernel_rfl) (by kernel_rfl) (by kernel_rfl) (by kernel_rfl) ?_
   all_goals have q1q := J10 ho e0 e3 hj1 hj2 hg1 hg2 hws @encS.eq_1 @List.length_map.{0,0}
   all_goals iterate 7 refine D.one q1q ?_
   all_goals refine D.nil ⟨?_, ?_⟩
   all_goals iterate 3 refine D.one q1q ?_
   all_goals refine D.nil ?_
   all_goals simp only [ze, simprocAttr, q1q]
   all_goals exact ⟨e0, e3, rfl⟩
  rintro s2 σ ⟨rfl, e0, e3, e25⟩
  refine AW.cond (b := y.toList == x.toList) e25 (fun hc => ?_) (fun hc => ?_)
  ·have hyx := encS_ext hc
   have z1 : (∀ (e : List V), e ∈ l.map encS → e.length = 1) = True := eq_true (len_strs _)
   have hi2 : 1 ≤ l.length := by omega
   refine AW.sr (J9 ho e0 e3 z1 hj1 hj2 hi2 @List.length_map.{0,0} h2) ?_
   refine AW.seq_k fun K11 h11 => ?_
   refine AW.sr trivial ?_
   refine AW.block ?_   -- 2
   refine AW.loop (fun m2 s σ => s.t 0 = .gl k ∧ s.t 3 = .c (.int .i64 (1 : Nat)) ∧ s.t 4 = .gv k 1 1 ∧ s.t 5 = .c (.int .i64 (1 : Nat)) ∧ σ = hpZ k l) 0 ?_ ?_
   ·simp only [zs, simprocAttr, e0, e3]
    all_goals ((try and_intros) <;> first | rfl | assumption | (rfl))
   rintro m2 s σ ⟨e0, e3, e4, e5, rfl⟩
   refine AW.seq_k fun K13 h13 => ?_
   all_goals refine AW.sr (J2 e4 e5) ?_
   refine AW.cond (b := decide ((1 : Int) < 1)) (by simp [ev]) (fun hj => absurd hj (by decide)) (fun hj => ?_)
   refine AW.exit ?_
   all_goals simp only [zs, simprocAttr]
   all_goals apply_assumption
   have hqs : 1 + (2 - 1) ≤ l.length := by omega
   all_goals refine AW.sr (J10 ho e0 e3 z1 hj1 hj2 hi2 hqs @List.length_map.{0,0} h2) ?_
   refine AW.seq_k fun K16 h16 => ?_
   all_goals refine AW.reg0 ?_
   all_goals iterate 2 refine S.one (J2 e0 e3) ?_
   all_goals (refine S.g rfl rfl fun Y Z => ?_; simp only [zz, simprocAttr, -Int.reduceNatCast', -Int.reduceToNat, tt, e0, e3]; refine ⟨by simp; try omega, fun k1 hk1 => ?_⟩ <;> (refine Z _ _ ?_; clear Z Y))
   all_goals refine S.one (J2 e0 e3) ?_
   all_goals (refine S.nil ?_; simp only [ze, simprocAttr, e0, e3]; apply_assumption)
   refine AW.ret ?_
   all_goals simp only [zs, simprocAttr]
   subst hyx
   subst hxy
   refine ⟨k1, [y], rfl, by simp, by simp, ?_⟩
   simp [hpZ]
  ·refine AW.skip ?_
   simp only [zs, simprocAttr]
   all_goals apply_assumption
   refine AW.reg0 (S.rn (J2 e3 hw) ?_)
   simp only [ze, simprocAttr, e3, hw]
   exact ⟨m - 1, by omega, 2, by omega, by omega, e0, rfl⟩
 ·refine AW.exit ?_
  simp only [zs, simprocAttr]
  all_goals apply_assumption
  refine AW.sr e0 ?_
  refine AW.ret ?_
  simp only [zs, simprocAttr]
  exact ⟨k, l, rfl, (fun x => Iff.rfl), Nat.le_refl _, rfl⟩
theorem insortN_spec : PCalls Tryz.prog 207 [.sl [], .c (.int .i64 0), .c (.int .i64 0)] (fun v => v = .tup []) := by
 refine PCalls.intro Tryz.call207 Tryz.func207 rfl Tryz.ntmps207 Tryz.results207 (by simp) ?_
 have hw1 : IntKind.i64.wrap ((0 : Int) + 1) = 1 := by decide
 refine AW.sr hw1 ?_
 refine AW.block ?_   -- 0
 refine AW.loop (fun m s σ => s.t 2 = .c (.int .i64 0) ∧ s.t 6 = .c (.int .i64 1) ∧ σ = Hp.empty) 0 ?_ ?_
 ·simp only [zs, simprocAttr]
  all_goals ((try and_intros) <;> first | rfl | assumption | (rfl))
 rintro m s σ ⟨e2, e6, rfl⟩
 refine AW.seq_k fun K2 h2 => ?_
 all_goals refine AW.sr (J2 e2 e6) ?_
 refine AW.cond (b := decide ((1 : Int) < 0)) rfl (fun hc => absurd hc (by decide)) (fun hc => ?_)
 refine AW.exit ?_
 all_goals simp only [zs, simprocAttr]
 all_goals ((try and_intros) <;> first | rfl | assumption | (rfl))
theorem pdqN_spec (lim : Int) : PCalls Tryz.prog 181 [.sl [], .c (.int .i64 0), .c (.int .i64 0), .c (.int .i64 lim)] (fun v => v = .tup []) := by
 refine PCalls.intro Tryz.call181 Tryz.func181 rfl Tryz.ntmps181 Tryz.results181 (by simp) ?_
 refine AW.sr trivial ?_
 refine AW.sr trivial ?_
 refine AW.block ?_   -- 0
 refine AW.loop (fun m s σ => s.t 0 = .sl [] ∧ s.t 1 = .c (.int .i64 0) ∧ s.t 2 = .c (.int .i64 0) ∧ σ = Hp.empty) 0 ?_ ?_
 ·simp only [zs, simprocAttr]
  all_goals ((try and_intros) <;> first | rfl | assumption | (rfl))
 rintro m s σ ⟨e0, e1, e2, rfl⟩
 refine AW.block ?_   -- 1
 have hw : IntKind.i64.wrap ((0 : Int) - 0) = 0 := by decide
 all_goals refine AW.sr (J3 e1 e2 hw) ?_
 refine AW.seq_k fun K4 h4 => ?_
 all_goals refine AW.sr trivial ?_
 refine AW.cond (b := decide ((0 : Int) ≤ 12)) rfl (fun hc => ?_) (fun hc => absurd hc (by decide))
 refine AW.seq_k fun K6 h6 => ?_
 all_goals refine AW.reg0 ?_
 all_goals iterate 3 refine S.one (J3 e0 e1 e2) ?_
 all_goals (refine S.g rfl rfl fun Y Z => ?_; simp only [zz, simprocAttr, -Int.reduceNatCast', -Int.reduceToNat, e0, e1, e2]; refine PCalls.eqto insortN_spec ?_ <;> (refine Z _ _ ?_; clear Z Y))
 all_goals (refine S.nil ?_; simp only [ze, simprocAttr, e0, e1, e2]; apply_assumption)
 refine AW.ret ?_
 all_goals simp only [zs, simprocAttr]
 all_goals ((try and_intros) <;> first | rfl | assumption | (rfl))
theorem sortN_spec : PCalls Tryz.prog 157 [.sl []] (fun v => v = .tup []) := by
 refine PCalls.intro Tryz.call157 Tryz.func157 rfl Tryz.ntmps157 Tryz.results157 (by simp) ?_
 have hwu : IntKind.u64.wrap ((0 : Nat) : Int) = ((0 : Nat) : Int) := by decide
 refine AW.sr trivial ?_
 refine AW.reg0 ?_
 iterate 4 refine S.one hwu ?_
 (refine S.g rfl rfl fun Y Z => ?_; simp only [zz, simprocAttr, -Int.reduceNatCast', -Int.reduceToNat, hwu]; refine PCalls.eqto (len_2 0 (by omega)) ?_ <;> (refine Z _ _ ?_; clear Z Y))
 all_goals (refine S.g rfl rfl fun Y Z => ?_; simp only [zz, simprocAttr, -Int.reduceNatCast', -Int.reduceToNat, hwu]; refine PCalls.eqto (pdqN_spec _) ?_ <;> (refine Z _ _ ?_; clear Z Y))
 all_goals refine S.nil ?_
 all_goals simp only [ze, simprocAttr, hwu]
 all_goals ((try and_intros) <;> first | rfl | assumption | (rfl))
theorem compactN_spec : PCalls Tryz.prog 158 [.sl []] (fun v => v = .sl []) := by
 refine PCalls.intro Tryz.call158 Tryz.func158 rfl Tryz.ntmps158 Tryz.results158 (by simp) ?_
 refine AW.sr trivial ?_
 refine AW.seq_k fun K2 h2 => ?_
 refine AW.sr trivial ?_
 refine AW.cond (b := decide ((0 : Int) < 2)) rfl (fun h2 => ?_) (fun h2 => absurd h2 (by decide))
 refine AW.sr trivial ?_
 refine AW.ret ?_
 simp only [zs, simprocAttr]
 all_goals ((try and_intros) <;> first | rfl | assumption | (rfl))
def opdN (o : Opd) : List ByteArray := if eqS o.attr ⟨#[]⟩ then [] else [o.var]
def namesC (c : Cnd) : List ByteArray := opdN c.l ++ opdN c.r
theorem opdN_len (o : Opd) : (opdN o).length ≤ 1 := by unfold opdN; split <;> simp
def AccS (l : List ByteArray) (u : V) (σ : Hp) : Prop := (u = .c (.slice none 0 0) ∧ l = [] ∧ σ = Hp.empty) ∨ ∃ k, u = .gl k ∧ σ = hpZ k l
theorem Names_spec (c : Cnd) : PCalls Tryz.prog 115 [.agg (encC c)] (fun v => ∃ l' : List ByteArray, v = .sl (l'.map encS) ∧ l'.length < 3 ∧ ∀ x, x ∈ l' ↔ x ∈ namesC c) := by
 have hl2 : (namesC c).length < 3 := by have := opdN_len c.l; have := opdN_len c.r; simp only [namesC, List.length_append]; omega
 obtain ⟨ops, hops⟩ : ∃ o, o = [c.l, c.r] := ⟨_, rfl⟩
 have hol : ops.length = 2 := by rw [hops]; rfl
 refine PCalls.intro Tryz.call115 Tryz.func115 rfl Tryz.ntmps115 Tryz.results115 (by simp) ?_
 refine AW.seq_k fun K1 h1 => ?_
 refine AW.reg0 ?_
 iterate 2 (refine S.g rfl rfl fun Y Z => ?_; simp only [zz, reduceIte, Nat.reduceEqDiff, Nat.reduceLT, Nat.reduceLeDiff, Nat.reduceAdd, reduceCtorEq, Nat.reduceMul, tt, encC, encO]; refine Z _ _ ?_; clear Z Y)
 all_goals (refine S.nil ?_; simp only [ze, reduceIte, Nat.reduceEqDiff, Nat.reduceLT, Nat.reduceLeDiff, Nat.reduceAdd, reduceCtorEq, Nat.reduceMul, encC, encO]; apply_assumption)
 refine AW.seq_k fun K2 h2 => ?_
 all_goals refine AW.reg0 ?_
 all_goals (refine S.g rfl rfl fun Y Z => ?_; simp only [zz, reduceIte, Nat.reduceEqDiff, Nat.reduceAdd]; refine Z _ _ ?_; clear Z Y)
 all_goals (refine S.nil ?_; simp only [ze, reduceIte, Nat.reduceEqDiff, Nat.reduceLT, Nat.reduceLeDiff, Nat.reduceAdd, reduceCtorEq, Nat.reduceMul]; apply_assumption)
 refine AW.seq_k fun K3 h3 => ?_
 refine AW.seq_k fun K4 h4 => ?_
 all_goals refine AW.reg0 ?_
 all_goals iterate 4 (refine S.g rfl rfl fun Y Z => ?_; simp only [zz, reduceIte, Nat.reduceEqDiff, Nat.reduceLT, Nat.reduceLeDiff, Nat.reduceAdd, reduceCtorEq, Nat.reduceMul, tt]; refine Z _ _ ?_; clear Z Y)
 all_goals (refine S.g rfl rfl fun Y Z => ?_; simp only [zb, reduceIte, Nat.reduceEqDiff, Nat.reduceLT, Nat.reduceLeDiff, Nat.reduceAdd, reduceCtorEq, Nat.reduceMul, tt]; refine ⟨by decide, (fun e he => by simp only [List.mem_cons, List.not_mem_nil, or_false] at he; rcases he with rfl | rfl <;> rfl), ?_⟩ <;> (refine Z _ _ ?_; clear Z Y))
 all_goals iterate 2 (refine S.g rfl rfl fun Y Z => ?_; simp only [zz, reduceIte, Nat.reduceEqDiff, Nat.reduceLT, Nat.reduceLeDiff, Nat.reduceAdd, reduceCtorEq, Nat.reduceMul, tt]; refine Z _ _ ?_; clear Z Y)
 all_goals (refine S.nil ?_; simp only [ze, reduceIte, Nat.reduceEqDiff, Nat.reduceLT, Nat.reduceLeDiff, Nat.reduceAdd, reduceCtorEq, Nat.reduceMul]; apply_assumption)
 refine AW.block ?_   -- 0
 refine AW.loop (fun m s σ => ∃ i : Nat, m + i = 2 ∧ s.t 10 = .sl (ops.map encO) ∧ s.t 11 = .c (.int .i64 2) ∧ s.t 12 = .c (.int .i64 (i : Nat)) ∧ AccS ((ops.take i).flatMap opdN) (s.t 3) σ) 2 ?_ ?_
 ·refine ⟨0, by simp, ?_⟩
  simp only [zs, reduceIte, Nat.reduceEqDiff, Nat.reduceLT, Nat.reduceLeDiff, Nat.reduceAdd, reduceCtorEq, Nat.reduceMul]
  rw [hops]
  exact ⟨rfl, rfl, rfl, .inl ⟨rfl, rfl, rfl⟩⟩
 rintro m s σ ⟨i, hm, e10, e11, e12, hacc⟩
 all_goals refine AW.sr (J2 e11 e12) ?_
 refine AW.seq_k fun K6 h6 => ?_
 refine AW.cond (b := decide ((i : Int) < 2)) (by simp [ev]) (fun hi => ?_) (fun hi => ?_)
 ·have hi : i < 2 := by have := of_decide_eq_true hi; omega
  have hil : i < ops.length := by omega
  have hg : ((ops.map encO)).getD i [] = encO (ops[i]) := getD_map hil
  have hst : (ops.take (i + 1)).flatMap opdN = (ops.take i).flatMap opdN ++ opdN (ops[i]) := by
   rw [List.take_add_one, List.getElem?_eq_getElem hil, List.flatMap_append]; simp
  have hlen : ((ops.take i).flatMap opdN).length ≤ 1 := by
   have := opdN_len c.l
   have : i = 0 ∨ i = 1 := by omega
   rcases this with rfl | rfl <;> simp [hops] <;> assumption
  generalize ops[i] = o at hg hst
  generalize hL : (ops.take i).flatMap opdN = L at hst hacc hlen
  have hw := wadd1 (a := i) (by omega)
  refine AW.skip ?_
  simp only [zs, simprocAttr]
  all_goals apply_assumption
  refine AW.seq_j (fun s' σ' => s'.t 10 = .sl (ops.map encO) ∧ s'.t 11 = .c (.int .i64 2) ∧ s'.t 12 = .c (.int .i64 (i : Nat)) ∧ AccS (L ++ opdN o) (s'.t 3) σ') ?_ ?_
  ·refine AW.block ?_   -- 1
   refine AW.seq_j (fun s' σ' => s'.t 10 = .sl (ops.map encO) ∧ s'.t 11 = .c (.int .i64 2) ∧ s'.t 12 = .c (.int .i64 (i : Nat)) ∧ AccS L (s'.t 3) σ' ∧ s'.t 5 = .lp 5 0 ∧ s'.l 5 = some (encO o)) ?_ ?_
   ·rcases hacc with ⟨e3, hn, rfl⟩ | ⟨k, e3, rfl⟩
    ·skip
     have q1q := J10 e3 e10 e11 e12 hil hi hol hg @encO.eq_1 @List.length_map.{0,0}
     refine AW.reg0 (S.rn q1q ?_)
     simp only [ze, simprocAttr, q1q]
     exact .inl ⟨rfl, hn, rfl⟩
    ·skip
     have q2q := J10 e3 e10 e11 e12 hil hi hol hg @encO.eq_1 @List.length_map.{0,0}
     refine AW.reg0 (S.rn q2q ?_)
     simp only [ze, simprocAttr, q2q]
     exact .inr ⟨k, rfl, rfl⟩
   rintro s σ ⟨e10, e11, e12, hacc, e5, l5⟩
   all_goals refine AW.sr (J3 e5 l5 @encO.eq_1) ?_
   refine AW.cond (b := !(eqS o.attr ⟨#[]⟩)) (by rw [eqS, str_nil]; rfl) (fun hc => ?_) (fun hc => ?_)
   ·have hc : eqS o.attr ⟨#[]⟩ = false := by simpa using hc
    have hon : opdN o = [o.var] := by rw [opdN, hc, if_neg Bool.false_ne_true]
    rw [hon]
    have y1 : (L.length + 1 ≤ maxLen) = True := eq_true (by unfold maxLen; omega)
    have y2 : ((L.length + 1) * 16 ≤ reach) = True := eq_true (by unfold reach; omega)
    have y3 : (1 ≤ maxLen) = True := eq_true (by unfold maxLen; omega)
    have z1 : (∀ (e : List V), e ∈ [[V.c (.string o.var)]] → e.length = 1) = True := eq_true fun e he => by rw [List.mem_singleton.1 he]; rfl
    have y4 : (16 ≤ reach) = True := eq_true (by unfold reach; omega)
    rcases hacc with ⟨e3, hn, rfl⟩ | ⟨k, e3, rfl⟩
    ·rw [hn]
     refine AW.reg0 ?_
     iterate 4 (refine S.g rfl rfl fun Y Z => ?_; simp only [zb, simprocAttr, -Int.reduceNatCast', -Int.reduceToNat, tt, e3, e5, l5, encO, e10, e11, e12, z1, y3, y4]; refine Z _ _ ?_; clear Z Y)
     all_goals have q3q := J10 e3 e5 l5 @encO.eq_1 e10 e11 e12 z1 y3 y4
     all_goals (refine S.g rfl rfl fun Y Z => ?_; simp only [zz, simprocAttr, -Int.reduceNatCast', -Int.reduceToNat, tt, q3q]; intro k1 hk1 <;> (refine Z _ _ ?_; clear Z Y))
     all_goals refine S.one q3q ?_
     all_goals refine S.nil ?_
     all_goals simp only [ze, simprocAttr, q3q]
     exact .inr ⟨k1, rfl, rfl⟩
    ·unfold hpZ
     refine AW.reg0 ?_
     iterate 4 (refine S.g rfl rfl fun Y Z => ?_; simp only [zb, simprocAttr, -Int.reduceNatCast', -Int.reduceToNat, tt, e3, e5, l5, encO, e10, e11, e12, z1, y1, y2, y3, y4, List.length_map]; refine Z _ _ ?_; clear Z Y)
     all_goals have q4q := J12 e3 e5 l5 @encO.eq_1 e10 e11 e12 z1 y1 y2 y3 (J2 y4 @List.length_map.{0,0})
     all_goals (refine S.g rfl rfl fun Y Z => ?_; simp only [zz, simprocAttr, -Int.reduceNatCast', -Int.reduceToNat, tt, q4q]; intro k1 hk1 <;> (refine Z _ _ ?_; clear Z Y))
     all_goals refine S.one q4q ?_
     all_goals refine S.nil ?_
     all_goals simp only [ze, simprocAttr, q4q]
     exact .inr ⟨k1, rfl, by rw [hpZ, List.map_append]; rfl⟩
   ·have hc : eqS o.attr ⟨#[]⟩ = true := by simpa using hc
    have hon : opdN o = [] := by rw [opdN, hc, if_pos rfl]
    refine AW.skip ?_
    simp only [zs, simprocAttr]
    rw [hon, List.append_nil]
    all_goals ((try and_intros) <;> first | rfl | assumption | (exact hacc))
  rintro s2 σ2 ⟨e10, e11, e12, hacc⟩
  all_goals have q5q := J4 e10 e11 e12 hw
  all_goals refine AW.reg0 (S.rn q5q ?_)
  all_goals simp only [ze, simprocAttr, q5q]
  refine ⟨m - 1, by omega, i + 1, by omega, ?_⟩
  rw [hst]
  all_goals ((try and_intros) <;> first | rfl | assumption | (exact hacc))
 ·have hi := of_decide_eq_false hi
  obtain rfl : i = 2 := by omega
  have hfl : (ops.take 2).flatMap opdN = namesC c := by simp [namesC, hops]
  rw [hfl] at hacc
  clear hfl
  refine AW.exit ?_
  simp only [zs, simprocAttr]
  all_goals apply_assumption
  rcases hacc with ⟨e3, hn, rfl⟩ | ⟨k, e3, rfl⟩
  ·refine AW.seq_k fun K8 h8 => ?_
   refine AW.reg0 ?_
   refine S.one e3 ?_
   (refine S.g rfl rfl fun Y Z => ?_; simp only [zz, simprocAttr, -Int.reduceNatCast', -Int.reduceToNat, e3]; (first | refine PCalls.eqto sortN_spec ?_ | (refine ACalls.to (sortS_spec (namesC c) k hl2) ?_; rintro v1 σ1 ⟨rfl, l1, hl1, rfl⟩)) <;> (refine Z _ _ ?_; clear Z Y))
   all_goals (refine S.nil ?_; simp only [ze, simprocAttr, e3]; apply_assumption)
   refine AW.seq_k fun K9 h9 => ?_
   all_goals refine AW.reg0 ?_
   all_goals refine S.one e3 ?_
   all_goals (refine S.g rfl rfl fun Y Z => ?_; simp only [zz, simprocAttr, -Int.reduceNatCast', -Int.reduceToNat, e3]; (first | refine PCalls.eqto compactN_spec ?_ | (refine ACalls.to (compactS_spec l1 k hl1n) ?_; rintro v1 σ1 ⟨k2, l2, rfl, hl2m, hl2n, rfl⟩)) <;> (refine Z _ _ ?_; clear Z Y))
   all_goals refine S.one e3 ?_
   all_goals (refine S.nil ?_; simp only [ze, simprocAttr, e3]; apply_assumption)
   refine AW.ret ?_
   all_goals simp only [zs, simprocAttr]
   exact ⟨[], rfl, by simp, by rw [hn]; simp⟩
  ·refine AW.seq_k fun K10 h10 => ?_
   refine AW.reg0 ?_
   refine S.one e3 ?_
   (refine S.g rfl rfl fun Y Z => ?_; simp only [zz, simprocAttr, -Int.reduceNatCast', -Int.reduceToNat, e3]; (first | refine PCalls.eqto sortN_spec ?_ | (refine ACalls.to (sortS_spec (namesC c) k hl2) ?_; rintro v1 σ1 ⟨rfl, l1, hl1, rfl⟩)) <;> (refine Z _ _ ?_; clear Z Y))
   all_goals (refine S.nil ?_; simp only [ze, simprocAttr, e3]; apply_assumption)
   have hl1n : l1.length < 3 := by rw [hl1.length_eq]; exact hl2
   refine AW.seq_k fun K11 h11 => ?_
   all_goals refine AW.reg0 ?_
   all_goals refine S.one e3 ?_
   all_goals (refine S.g rfl rfl fun Y Z => ?_; simp only [zz, simprocAttr, -Int.reduceNatCast', -Int.reduceToNat, e3]; (first | refine PCalls.eqto compactN_spec ?_ | (refine ACalls.to (compactS_spec l1 k hl1n) ?_; rintro v1 σ1 ⟨k2, l2, rfl, hl2m, hl2n, rfl⟩)) <;> (refine Z _ _ ?_; clear Z Y))
   all_goals refine S.one e3 ?_
   all_goals (refine S.nil ?_; simp only [ze, simprocAttr, e3]; apply_assumption)
   refine AW.freeze (k := k2) (T := (9, 1)) (es := l2.map encS) (by simp only [hpZ, Hp.setGr_gr, if_true]) ?_
   have hem : (hpZ k2 l2).setGr k2 none = Hp.empty := by simp [hpZ]
   rw [hem]
   refine AW.ret ?_
   all_goals simp only [zs, simprocAttr, fzV, fz1, St.fz_t, St.fz_l]
   exact ⟨l2, rfl, by omega, fun x => (hl2m x).trans hl1.mem_iff⟩
def capZ (cells : List V) : V := .ip [cells] 0 0
theorem capZ_wk (cells : List V) : wk (capZ cells) = capZ cells := rfl
theorem capZ_ok (cells : List V) : okV (capZ cells) = true := rfl
def idxZ {α : Type} (p : α → Bool) : Nat → List α → Int
  | _, [] => -1
  | i, x :: l => if p x then (i : Int) else idxZ p (i + 1) l
theorem idxZ_any {α : Type} (p : α → Bool) : ∀ (l : List α) (i : Nat), decide (idxZ p i l ≥ 0) = l.any p
  | [], i => rfl
  | x :: l, i => by
    rw [idxZ, List.any_cons]
    cases h : p x
    · rw [if_neg Bool.false_ne_true, Bool.false_or]; exact idxZ_any p l (i + 1)
    · rw [if_pos rfl, Bool.true_or, decide_eq_true_eq]; omega
theorem idxZ_spec {c : V} {g : Nat} {p : ByteArray → Bool} (l : List ByteArray) (hl : l.length < 4611686018427387904) (hk : wk c = c) (hv : okV c = true) (hf : ∀ a, PCalls Tryz.prog g [.c (.string a), c] (fun v => v = .c (.bool (p a)))) :
  PCalls Tryz.prog 156 [.sl (l.map encS), .fn (.func g) [] [c]] (fun v => v = .c (.int .i64 (idxZ p 0 l))) := by
 refine PCalls.intro Tryz.call156 Tryz.func156 rfl Tryz.ntmps156 Tryz.results156 (by simp) ?_
 refine AW.sr trivial ?_
 refine AW.seq_k fun K2 h2 => ?_
 refine AW.sr @List.length_map.{0,0} ?_
 refine AW.block ?_   -- 0
 refine AW.loop (fun m s σ => σ = Hp.empty ∧ ∃ i : Nat, m + i = l.length ∧ s.t 0 = .sl (l.map encS) ∧ s.t 1 = .fn (.func g) [] [c] ∧ s.t 7 = .c (.int .i64 (l.length : Nat)) ∧ s.t 8 = .c (.int .i64 (i : Nat)) ∧ idxZ p 0 l = idxZ p i (l.drop i)) l.length ?_ ?_
 ·refine ⟨rfl, 0, by simp, ?_⟩
  simp only [zs, simprocAttr]
  all_goals ((try and_intros) <;> first | rfl | assumption | (rfl))
 rintro m s σ ⟨rfl, i, hm, e0, e1, e7, e8, hp⟩
 all_goals refine AW.sr (J2 e7 e8) ?_
 refine AW.seq_k fun K5 h5 => ?_
 refine AW.cond (b := decide (i < l.length)) (by simp [ev]) (fun hc => ?_) (fun hc => ?_)
 ·have hi := of_decide_eq_true hc
  obtain ⟨x, hx, hg, hd⟩ := str_get hi
  have hw := wadd1 (a := i) (by omega)
  rw [hd, idxZ] at hp
  refine AW.skip ?_
  simp only [zs, simprocAttr]
  all_goals apply_assumption
  refine AW.seq_k fun K6 h6 => ?_
  refine AW.block ?_   -- 1
  refine AW.sr e8 ?_
  refine AW.seq_k fun K8 h8 => ?_
  refine AW.reg0 ?_
  iterate 5 refine S.one (J7 e0 e1 hi hg hv hk @List.length_map.{0,0}) ?_
  have q1q := J7 e0 e1 hi hg hv hk @List.length_map.{0,0}
  (refine S.g rfl rfl fun Y Z => ?_; simp only [zz, simprocAttr, -Int.reduceNatCast', -Int.reduceToNat, q1q]; refine PCalls.eqto (hf x) ?_ <;> (refine Z _ _ ?_; clear Z Y))
  all_goals (refine S.nil ?_; simp only [ze, simprocAttr, q1q]; apply_assumption)
  refine AW.cond (b := p x) (by simp [ev]) (fun hc2 => ?_) (fun hc2 => ?_)
  ·refine AW.sr trivial ?_
   refine AW.ret ?_
   simp only [zs, simprocAttr]
   rw [hp, if_pos hc2]
  ·refine AW.skip ?_
   simp only [zs, simprocAttr]
   all_goals apply_assumption
   rw [hc2, if_neg Bool.false_ne_true] at hp
   have q2q := J5 e8 hw e0 e1 e7
   refine AW.reg0 (S.rn q2q ?_)
   simp only [ze, simprocAttr, q2q]
   refine ⟨m - 1, by omega, i + 1, by omega, ?_⟩
   all_goals ((try and_intros) <;> first | rfl | assumption | (exact hp))
 ·have hi := of_decide_eq_false hc
  refine AW.exit ?_
  simp only [zs, simprocAttr]
  all_goals apply_assumption
  rw [List.drop_of_length_le (by omega), idxZ] at hp
  refine AW.sr trivial ?_
  refine AW.ret ?_
  simp only [zs, simprocAttr]
  rw [hp]
theorem anyZ_spec {c : V} {g : Nat} {p : ByteArray → Bool} (l : List ByteArray) (hl : l.length < 4611686018427387904) (hk : wk c = c) (hv : okV c = true) (hf : ∀ a, PCalls Tryz.prog g [.c (.string a), c] (fun v => v = .c (.bool (p a)))) :
  PCalls Tryz.prog 114 [.sl (l.map encS), .fn (.func g) [] [c]] (fun v => v = .c (.bool (l.any p))) := by
 have hh := idxZ_any p l 0
 refine PCalls.intro Tryz.call114 Tryz.func114 rfl Tryz.ntmps114 Tryz.results114 (by simp) ?_
 refine AW.sr trivial ?_
 refine AW.seq_k fun K2 h2 => ?_
 refine AW.reg0 ?_
 iterate 2 refine S.one (J3 hv hk hh) ?_
 (refine S.g rfl rfl fun Y Z => ?_; simp only [zz, simprocAttr, -Int.reduceNatCast', -Int.reduceToNat, hv, hk, hh]; refine PCalls.eqto (idxZ_spec l hl hk hv hf) ?_ <;> (refine Z _ _ ?_; clear Z Y))
 all_goals iterate 2 refine S.one (J3 hv hk hh) ?_
 all_goals (refine S.nil ?_; simp only [ze, simprocAttr, hv, hk, hh]; apply_assumption)
 refine AW.ret ?_
 all_goals simp only [zs, simprocAttr]
 all_goals ((try and_intros) <;> first | rfl | assumption | (rfl))
theorem readyF_spec (vars : List ByteArray) (hl : vars.length < 4611686018427387904) (a : ByteArray) : PCalls Tryz.prog 116 [.c (.string a), capZ [.sl (vars.map encS)]] (fun v => v = .c (.bool (!hasS vars a))) := by
 refine PCalls.intro Tryz.call116 Tryz.func116 rfl Tryz.ntmps116 Tryz.results116 (by simp) ?_
 refine AW.sr @capZ.eq_1 ?_
 refine AW.seq_k fun K2 h2 => ?_
 refine AW.reg0 ?_
 iterate 2 refine S.one trivial ?_
 (refine S.g rfl rfl fun Y Z => ?_; simp only [zz, simprocAttr, -Int.reduceNatCast', -Int.reduceToNat]; refine PCalls.eqto (containsS_spec vars a hl) ?_ <;> (refine Z _ _ ?_; clear Z Y))
 all_goals iterate 2 refine S.one trivial ?_
 all_goals (refine S.nil ?_; simp only [ze, simprocAttr]; apply_assumption)
 refine AW.ret ?_
 all_goals simp only [zs, simprocAttr]
 all_goals ((try and_intros) <;> first | rfl | assumption | (rfl))
def readyC (vars : List ByteArray) (c : Cnd) : Bool := (namesC c).all (hasS vars ·)
theorem any_names {vars l : List ByteArray} {c : Cnd} (h : ∀ x, x ∈ l ↔ x ∈ namesC c) : (!(l.any fun a => !hasS vars a)) = readyC vars c := by
 rw [readyC, Bool.eq_iff_iff, List.all_eq_true, Bool.not_eq_true', List.any_eq_false]
 exact ⟨fun g x hx => by simpa using g x ((h x).2 hx), fun g x hx => by simpa using g x ((h x).1 hx)⟩
theorem Ready_spec (vars : List ByteArray) (hl : vars.length < 4611686018427387904) (c : Cnd) : PCalls Tryz.prog 74 [.agg (encC c), .sl (vars.map encS)] (fun v => v = .c (.bool (readyC vars c))) := by
 refine PCalls.intro Tryz.call74 Tryz.func74 rfl Tryz.ntmps74 Tryz.results74 (by simp) ?_
 refine AW.seq_j (fun s σ => σ = Hp.empty ∧ s.t 2 = .lp 2 0 ∧ s.l 2 = some (encC c) ∧ s.t 3 = .lp 3 0 ∧ s.l 3 = some [.sl (vars.map encS)] ∧ s.t 4 = .c (.bool false)) ?_ ?_
 ·skip
  refine AW.reg0 (S.rn trivial ?_)
  simp only [ze, simprocAttr]
  all_goals ((try and_intros) <;> first | rfl | assumption | (rfl))
 rintro s σ ⟨rfl, e2, l2, e3, l3, e4⟩
 refine AW.hushBox l3 (by simp) ?_
 have f2 : (s.bx 3 [.sl (vars.map encS)]).t 2 = .lp 2 0 := by simp [e2, bxV]
 have f3 : (s.bx 3 [.sl (vars.map encS)]).t 3 = capZ [.sl (vars.map encS)] := by simp [e3, bxV, capZ]
 have g2 : (s.bx 3 [.sl (vars.map encS)]).l 2 = some (encC c) := by simp [l2]
 generalize s.bx 3 [.sl (vars.map encS)] = s at *
 refine AW.seq_k fun K1 h1 => ?_
 all_goals refine AW.reg0 ?_
 all_goals refine S.one (J6 f2 f3 g2 @encC.eq_1 @encO.eq_1 @capZ_ok) ?_
 all_goals have q1q := J6 f2 f3 g2 @encC.eq_1 @encO.eq_1 @capZ_ok
 all_goals (refine S.g rfl rfl fun Y Z => ?_; simp only [zz, simprocAttr, -Int.reduceNatCast', -Int.reduceToNat, q1q]; (refine PCalls.to (Names_spec c) ?_; rintro v1 ⟨nl, rfl, hnl, hnm⟩) <;> (refine Z _ _ ?_; clear Z Y))
 all_goals refine S.one q1q ?_
 all_goals have q2q := J6 f2 f3 g2 @encC.eq_1 @encO.eq_1 @capZ_ok
 all_goals (refine S.g rfl rfl fun Y Z => ?_; simp only [zz, simprocAttr, -Int.reduceNatCast', -Int.reduceToNat, q2q]; refine PCalls.eqto (anyZ_spec nl (by omega) (capZ_wk _) (capZ_ok _) (readyF_spec vars hl)) ?_ <;> (refine Z _ _ ?_; clear Z Y))
 all_goals iterate 2 refine S.one q2q ?_
 all_goals (refine S.nil ?_; simp only [ze, simprocAttr, q2q]; apply_assumption)
 refine AW.ret ?_
 all_goals simp only [zs, simprocAttr]
 exact congrArg (fun b => V.c (.bool b)) (any_names hnm)
def hpC (k : Nat) (l : List Cnd) : Hp := Hp.empty.setGr k (some ((47, 11), l.map encC))
def AccC (l : List Cnd) (u : V) (σ : Hp) : Prop := (u = .c (.slice none 0 0) ∧ l = [] ∧ σ = Hp.empty) ∨ ∃ k, u = .gl k ∧ σ = hpC k l
theorem cnd_nth {l : List Cnd} {i : Nat} (h : i < l.length) : ∃ x, l[i]? = some x ∧ (l.map encC).getD i [] = encC x ∧ l.drop i = x :: l.drop (i + 1) := ⟨l[i], List.getElem?_eq_getElem h, getD_map h, List.drop_eq_getElem_cons h⟩
theorem filter_step' {α : Type} {p : α → Bool} {l : List α} {i : Nat} {x : α} (h : l[i]? = some x) : (l.take (i + 1)).filter p = (l.take i).filter p ++ if p x then [x] else [] := by
 rw [List.take_add_one, h, List.filter_append]
 congr 1
 cases hp : p x <;> simp [hp]
theorem splitF_spec (l : List Cnd) (vars : List ByteArray) (hl : l.length < 1048576) (hv : vars.length < 4611686018427387904) (b : Bool) :
  PCalls Tryz.prog 73 [.c (.bool b), capZ [.sl (l.map encC)], capZ [.sl (vars.map encS)]] (fun v => v = .sl ((l.filter fun c => readyC vars c == b).map encC)) := by
 refine PCalls.intro Tryz.call73 Tryz.func73 rfl Tryz.ntmps73 Tryz.results73 (by simp) ?_
 refine AW.sr @capZ.eq_1 ?_
 refine AW.sr trivial ?_
 refine AW.seq_k fun K3 h3 => ?_
 refine AW.sr @List.length_map.{0,0} ?_
 refine AW.block ?_   -- 0
 refine AW.loop (fun m s σ => ∃ i : Nat, m + i = l.length ∧ s.t 0 = .c (.bool b) ∧ s.t 2 = .ip [[.sl (vars.map encS)]] 0 0 ∧ s.t 8 = .sl (l.map encC) ∧ s.t 9 = .c (.int .i64 (l.length : Nat)) ∧ s.t 10 = .c (.int .i64 (i : Nat)) ∧ AccC ((l.take i).filter fun c => readyC vars c == b) (s.t 5) σ) l.length ?_ ?_
 ·refine ⟨0, by simp, ?_⟩
  simp only [zs, simprocAttr]
  all_goals ((try and_intros) <;> first | rfl | assumption | (exact .inl ⟨rfl, rfl, rfl⟩))
 rintro m s σ ⟨i, hm, e0, e2, e8, e9, e10, hacc⟩
 all_goals refine AW.sr (J2 e9 e10) ?_
 refine AW.seq_k fun K6 h6 => ?_
 refine AW.cond (b := decide (i < l.length)) (by simp [ev]) (fun hi => ?_) (fun hi => ?_)
 ·have hi := of_decide_eq_true hi
  obtain ⟨x, hx, hg, hd⟩ := cnd_nth hi
  have hw := wadd1 (a := i) (by omega)
  have hst := filter_step' (p := fun c => readyC vars c == b) hx
  have hlen : ((l.take i).filter fun c => readyC vars c == b).length ≤ i := Nat.le_trans (List.length_filter_le _ _) (by rw [List.length_take]; omega)
  generalize hL : ((l.take i).filter fun c => readyC vars c == b) = L at hst hacc hlen
  have y1 : (L.length + 1 ≤ maxLen) = True := eq_true (by unfold maxLen; omega)
  have y2 : ((L.length + 1) * 136 ≤ reach) = True := eq_true (by unfold reach; omega)
  have y3 : (1 ≤ maxLen) = True := eq_true (by unfold maxLen; omega)
  have y4 : (136 ≤ reach) = True := eq_true (by unfold reach; omega)
  have z1 : (∀ (e : List V), e ∈ [encC x] → e.length = 11) = True := eq_true fun e he => by rw [List.mem_singleton.1 he]; rfl
  simp only [encC, encO, List.cons_append, List.nil_append] at z1
  refine AW.skip ?_
  simp only [zs, simprocAttr]
  all_goals apply_assumption
  refine AW.seq_j (fun s' σ' => s'.t 0 = .c (.bool b) ∧ s'.t 2 = .ip [[.sl (vars.map encS)]] 0 0 ∧ s'.t 8 = .sl (l.map encC) ∧ s'.t 9 = .c (.int .i64 (l.length : Nat)) ∧ s'.t 10 = .c (.int .i64 (i : Nat)) ∧ AccC (L ++ if (readyC vars x == b) = true then [x] else []) (s'.t 5) σ') ?_ ?_
  ·refine AW.block ?_   -- 1
   refine AW.seq_j (fun s' σ' => s'.t 0 = .c (.bool b) ∧ s'.t 2 = .ip [[.sl (vars.map encS)]] 0 0 ∧ s'.t 8 = .sl (l.map encC) ∧ s'.t 9 = .c (.int .i64 (l.length : Nat)) ∧ s'.t 10 = .c (.int .i64 (i : Nat)) ∧ AccC L (s'.t 5) σ' ∧ s'.t 7 = .lp 7 0 ∧ s'.l 7 = some (encC x)) ?_ ?_
   ·rcases hacc with ⟨e5, hn, rfl⟩ | ⟨k, e5, rfl⟩
    ·skip
     have q1q := J11 e0 e2 e5 e8 e9 e10 hi hg @encC.eq_1 @encO.eq_1 @List.length_map.{0,0}
     refine AW.reg0 (S.rn q1q ?_)
     simp only [ze, simprocAttr, q1q]
     exact ⟨.inl ⟨rfl, hn, rfl⟩, rfl⟩
    ·skip
     have q2q := J11 e0 e2 e5 e8 e9 e10 hi hg @encC.eq_1 @encO.eq_1 @List.length_map.{0,0}
     refine AW.reg0 (S.rn q2q ?_)
     simp only [ze, simprocAttr, q2q]
     exact ⟨.inr ⟨k, rfl, rfl⟩, rfl⟩
   rintro s σ ⟨e0, e2, e8, e9, e10, hacc, e7, l7⟩
   simp only [encC, encO, List.cons_append, List.nil_append] at l7
   refine AW.seq_k fun K7 h7 => ?_
   all_goals refine AW.reg0 ?_
   all_goals iterate 2 refine S.one (J6 e0 e2 e7 l7 @encC.eq_1 @encO.eq_1) ?_
   all_goals have q3q := J6 e0 e2 e7 l7 @encC.eq_1 @encO.eq_1
   all_goals (refine S.g rfl rfl fun Y Z => ?_; simp only [zz, simprocAttr, -Int.reduceNatCast', -Int.reduceToNat, q3q]; refine PCalls.eqto (Ready_spec vars hv x) ?_ <;> (refine Z _ _ ?_; clear Z Y))
   all_goals iterate 2 refine S.one q3q ?_
   all_goals (refine S.nil ?_; simp only [ze, simprocAttr, q3q]; apply_assumption)
   refine AW.cond (b := readyC vars x == b) (by simp [ev]) (fun hc => ?_) (fun hc => ?_)
   ·rw [hc, if_pos rfl]
    rcases hacc with ⟨e5, hn, rfl⟩ | ⟨k, e5, rfl⟩
    ·rw [hn]
     refine AW.reg0 ?_
     iterate 3 (refine S.g rfl rfl fun Y Z => ?_; simp only [zb, simprocAttr, -Int.reduceNatCast', -Int.reduceToNat, tt, e0, e2, e5, e7, l7, e8, e9, e10, encC, encO, z1, y1, y2, y3, y4]; refine Z _ _ ?_; clear Z Y)
     all_goals have q4q := J12 e0 e2 e5 e7 l7 e8 e9 e10 @encC.eq_1 @encO.eq_1 z1 (J4 y1 y2 y3 y4)
     all_goals (refine S.g rfl rfl fun Y Z => ?_; simp only [zz, simprocAttr, -Int.reduceNatCast', -Int.reduceToNat, tt, q4q]; intro k1 hk1 <;> (refine Z _ _ ?_; clear Z Y))
     all_goals refine S.one q4q ?_
     all_goals refine S.nil ?_
     all_goals simp only [ze, simprocAttr, q4q]
     all_goals exact .inr ⟨k1, rfl, rfl⟩
    ·unfold hpC
     refine AW.reg0 ?_
     iterate 3 (refine S.g rfl rfl fun Y Z => ?_; simp only [zb, simprocAttr, -Int.reduceNatCast', -Int.reduceToNat, tt, e0, e2, e5, e7, l7, e8, e9, e10, encC, encO, z1, y1, y2, y3, y4, List.length_map]; refine Z _ _ ?_; clear Z Y)
     all_goals have q5q := J12 e0 e2 e5 e7 l7 e8 e9 e10 @encC.eq_1 @encO.eq_1 z1 (J5 y1 y2 y3 y4 @List.length_map.{0,0})
     all_goals (refine S.g rfl rfl fun Y Z => ?_; simp only [zz, simprocAttr, -Int.reduceNatCast', -Int.reduceToNat, tt, q5q]; intro k1 hk1 <;> (refine Z _ _ ?_; clear Z Y))
     all_goals refine S.one q5q ?_
     all_goals refine S.nil ?_
     all_goals simp only [ze, simprocAttr, q5q]
     all_goals exact .inr ⟨k1, rfl, by rw [hpC, List.map_append]; rfl⟩
   ·rw [hc, if_neg Bool.false_ne_true, List.append_nil]
    refine AW.skip ?_
    simp only [zs, simprocAttr, e0, e2, e8, e9, e10]
    all_goals ((try and_intros) <;> first | rfl | assumption | (exact hacc))
  rintro s σ ⟨e0, e2, e8, e9, e10, hacc⟩
  all_goals have q6q := J6 e10 hw e0 e2 e8 e9
  all_goals refine AW.reg0 (S.rn q6q ?_)
  all_goals simp only [ze, simprocAttr, q6q]
  refine ⟨m - 1, by omega, i + 1, by omega, ?_⟩
  rw [hst]
  all_goals ((try and_intros) <;> first | rfl | assumption | (exact hacc))
 ·have hi := of_decide_eq_false hi
  refine AW.exit ?_
  simp only [zs, simprocAttr]
  all_goals apply_assumption
  rw [List.take_of_length_le (by omega)] at hacc
  rcases hacc with ⟨e5, hn, rfl⟩ | ⟨k, e5, rfl⟩
  ·refine AW.sr e5 ?_
   refine AW.ret ?_
   simp only [zs, simprocAttr]
   all_goals ((try and_intros) <;> first | rfl | assumption | (((rw [hn]) <;> rfl)))
  ·refine AW.freeze (k := k) (T := (47, 11)) (es := (l.filter fun c => readyC vars c == b).map encC) (by simp only [hpC, Hp.setGr_gr, if_true]) ?_
   have hem : (hpC k (l.filter fun c => readyC vars c == b)).setGr k none = Hp.empty := by simp [hpC]
   rw [hem]
   refine AW.sr (J10 @St.fz_t @St.fz_l @fzV.eq_1 @fzV.eq_2 @fz1.eq_1 @fz1.eq_2 @Option.map_some.{0,0} @List.map.eq_1.{0,0} @List.map.eq_2.{0,0} e5) ?_
   refine AW.ret ?_
   simp only [zs, simprocAttr]
   all_goals ((try and_intros) <;> first | rfl | assumption | (rfl))
theorem Split_spec (l : List Cnd) (vars : List ByteArray) (hl : l.length < 1048576) (hv : vars.length < 4611686018427387904) :
  PCalls Tryz.prog 36 [.sl (l.map encC), .sl (vars.map encS)] (fun v => v = .tup [.sl ((l.filter (readyC vars)).map encC), .sl ((l.filter fun c => !readyC vars c).map encC)]) := by
 have hq1 : (l.filter fun c => readyC vars c == true) = l.filter (readyC vars) := by congr 1; funext c; simp
 have hq2 : (l.filter fun c => readyC vars c == false) = l.filter fun c => !readyC vars c := by congr 1; funext c; cases readyC vars c <;> rfl
 refine PCalls.intro Tryz.call36 Tryz.func36 rfl Tryz.ntmps36 Tryz.results36 (by simp) ?_
 refine AW.seq_j (fun s σ => σ = Hp.empty ∧ s.t 2 = .lp 2 0 ∧ s.l 2 = some [.sl (l.map encC)] ∧ s.t 3 = .lp 3 0 ∧ s.l 3 = some [.sl (vars.map encS)]) ?_ ?_
 ·skip
  refine AW.reg0 (S.rn trivial ?_)
  simp only [ze, simprocAttr]
  all_goals ((try and_intros) <;> first | rfl | assumption | (rfl))
 rintro s σ ⟨rfl, e2, l2, e3, l3⟩
 refine AW.hushBox l2 (by simp) ?_
 have f2 : (s.bx 2 [.sl (l.map encC)]).t 2 = capZ [.sl (l.map encC)] := by simp [e2, bxV, capZ]
 have f3 : (s.bx 2 [.sl (l.map encC)]).t 3 = .lp 3 0 := by simp [e3, bxV]
 have g3 : (s.bx 2 [.sl (l.map encC)]).l 3 = some [.sl (vars.map encS)] := by simp [l3]
 generalize s.bx 2 [.sl (l.map encC)] = s at *
 refine AW.hushBox g3 (by simp) ?_
 have f2' : (s.bx 3 [.sl (vars.map encS)]).t 2 = capZ [.sl (l.map encC)] := by simp [f2, bxV, capZ]
 have f3' : (s.bx 3 [.sl (vars.map encS)]).t 3 = capZ [.sl (vars.map encS)] := by simp [f3, bxV, capZ]
 generalize s.bx 3 [.sl (vars.map encS)] = s at *
 all_goals have q1q := J3 f2' f3' @capZ_ok
 all_goals refine AW.sr q1q ?_
 refine AW.seq_k fun K2 h2 => ?_
 all_goals refine AW.reg0 ?_
 all_goals refine S.one q1q ?_
 all_goals have q2q := J3 f2' f3' @capZ_ok
 all_goals (refine S.g rfl rfl fun Y Z => ?_; simp only [zz, simprocAttr, -Int.reduceNatCast', -Int.reduceToNat, q2q]; refine PCalls.eqto (splitF_spec l vars hl hv true) ?_ <;> (refine Z _ _ ?_; clear Z Y))
 all_goals refine S.one q2q ?_
 all_goals have q3q := J3 f2' f3' @capZ_ok
 all_goals (refine S.g rfl rfl fun Y Z => ?_; simp only [zz, simprocAttr, -Int.reduceNatCast', -Int.reduceToNat, q3q]; refine PCalls.eqto (splitF_spec l vars hl hv false) ?_ <;> (refine Z _ _ ?_; clear Z Y))
 all_goals iterate 2 refine S.one q3q ?_
 all_goals (refine S.nil ?_; simp only [ze, simprocAttr, q3q]; apply_assumption)
 refine AW.ret ?_
 all_goals simp only [zs, simprocAttr]
 all_goals ((try and_intros) <;> first | rfl | assumption | (((rw [hq1, hq2]) <;> rfl)))
theorem len_cs (l : List Cnd) : ∀ (e : List V), e ∈ l.map encC → e.length = 11 := fun e he => by
 obtain ⟨a, _, rfl⟩ := List.mem_map.1 he; rfl
theorem len_nds (l : List Nd) : ∀ (e : List V), e ∈ l.map encNd → e.length = 5 := fun e he => by
 obtain ⟨a, _, rfl⟩ := List.mem_map.1 he; exact encNd_len a
theorem cloneC_spec (l : List Cnd) (hl : l.length < 1048576) : PCalls Tryz.prog 44 [.sl (l.map encC)] (fun v => v = .sl (l.map encC)) := by
 refine PCalls.intro Tryz.call44 Tryz.func44 rfl Tryz.ntmps44 Tryz.results44 (by simp) ?_
 refine AW.sr trivial ?_
 refine AW.seq_j (fun s' σ' => σ' = Hp.empty ∧ s'.t 0 = .sl (l.map encC)) ?_ ?_
 ·refine AW.seq_j (fun s' σ' => σ' = Hp.empty ∧ s'.t 0 = .sl (l.map encC) ∧ ∃ b, s'.t 4 = .c (.bool b) ∧ (b = true → l = [])) ?_ ?_
  ·skip
   refine AW.reg0 ?_
   refine S.one trivial ?_
   (refine S.g rfl rfl fun Y Z => ?_; simp only [zz, simprocAttr, -Int.reduceNatCast', -Int.reduceToNat, tt]; refine ⟨fun hne => ?_, fun hz b => ?_⟩ <;> (refine Z _ _ ?_; clear Z Y))
   all_goals refine S.nil ?_
   all_goals simp only [ze, simprocAttr]
   ·exact ⟨_, rfl, fun h => by cases h⟩
   ·exact ⟨_, rfl, fun _ => hz⟩
  rintro s σ ⟨rfl, e0, b, e4, hb⟩
  refine AW.cond (b := b) e4 (fun hc => ?_) (fun hc => AW.skip ?_)
  ·refine AW.sr trivial ?_
   refine AW.ret ?_
   simp only [zs, simprocAttr]
   all_goals ((try and_intros) <;> first | rfl | assumption | (((rw [hb hc]) <;> rfl)))
  ·simp only [zs, simprocAttr]
   exact e0
 rintro s σ ⟨rfl, e0⟩
 refine AW.seq_k fun K3 h3 => ?_
 all_goals refine AW.region (T := { own := fun d => d == 5 }) (fun _ _ h => by cases h) rfl ?_
 all_goals (refine S.g rfl rfl fun Y Z => ?_; simp only [zb, simprocAttr, -Int.reduceNatCast', -Int.reduceToNat, tt, e0]; intro k1 hk1 <;> (refine Z _ _ ?_; clear Z Y))
 all_goals refine S.one e0 ?_
 all_goals (refine S.g rfl rfl fun Y Z => ?_; simp only [zz, simprocAttr, -Int.reduceNatCast', -Int.reduceToNat, tt, e0]; refine ⟨len_cs l, by unfold maxLen; omega, by unfold reach; omega, fun k2 hk2 => ?_⟩ <;> (refine Z _ _ ?_; clear Z Y))
 all_goals refine S.one e0 ?_
 all_goals (refine S.nil ?_; simp only [ze, simprocAttr, e0]; apply_assumption)
 refine AW.freeze (k := k2) (T := (47, 11)) (es := l.map encC) (by simp) (AW.bare (AW.ret ?_))
 all_goals simp only [zs, simprocAttr, fzV, fz1, St.fz_t, St.fz_l]
 all_goals ((try and_intros) <;> first | rfl | assumption | (rfl))
def hpK (k : Nat) (l : List Nd) : Hp := Hp.empty.setGr k (some ((25, 5), l.map encNd))
theorem cloneK_spec (l : List Nd) (hl : l.length < 1048576) : ACalls Tryz.prog 113 [.sl (l.map encNd)] Hp.empty (fun v σ' => (v = .sl [] ∧ l = [] ∧ σ' = Hp.empty) ∨ ∃ k, v = .gl k ∧ σ' = hpK k l) := by
 refine ACalls.intro Tryz.call113 Tryz.func113 rfl Tryz.ntmps113 Tryz.results113 (by simp) ?_
 refine AW.sr trivial ?_
 refine AW.seq_j (fun s' σ' => σ' = Hp.empty ∧ s'.t 0 = .sl (l.map encNd)) ?_ ?_
 ·refine AW.seq_j (fun s' σ' => σ' = Hp.empty ∧ s'.t 0 = .sl (l.map encNd) ∧ ∃ b, s'.t 4 = .c (.bool b) ∧ (b = true → l = [])) ?_ ?_
  ·skip
   refine AW.reg0 ?_
   refine S.one trivial ?_
   (refine S.g rfl rfl fun Y Z => ?_; simp only [zz, simprocAttr, -Int.reduceNatCast', -Int.reduceToNat, tt]; refine ⟨fun hne => ?_, fun hz b => ?_⟩ <;> (refine Z _ _ ?_; clear Z Y))
   all_goals refine S.nil ?_
   all_goals simp only [ze, simprocAttr]
   ·exact ⟨_, rfl, fun h => by cases h⟩
   ·exact ⟨_, rfl, fun _ => hz⟩
  rintro s σ ⟨rfl, e0, b, e4, hb⟩
  refine AW.cond (b := b) e4 (fun hc => ?_) (fun hc => AW.skip ?_)
  ·refine AW.sr trivial ?_
   refine AW.ret ?_
   simp only [zs, simprocAttr]
   exact .inl (hb hc)
  ·simp only [zs, simprocAttr]
   exact e0
 rintro s σ ⟨rfl, e0⟩
 refine AW.seq_k fun K3 h3 => ?_
 all_goals refine AW.region (T := { own := fun d => d == 5 }) (fun _ _ h => by cases h) rfl ?_
 all_goals (refine S.g rfl rfl fun Y Z => ?_; simp only [zb, simprocAttr, -Int.reduceNatCast', -Int.reduceToNat, tt, e0]; intro k1 hk1 <;> (refine Z _ _ ?_; clear Z Y))
 all_goals refine S.one e0 ?_
 all_goals (refine S.g rfl rfl fun Y Z => ?_; simp only [zz, simprocAttr, -Int.reduceNatCast', -Int.reduceToNat, tt, e0]; refine ⟨len_nds l, by unfold maxLen; omega, by unfold reach; omega, fun k2 hk2 => ?_⟩ <;> (refine Z _ _ ?_; clear Z Y))
 all_goals refine S.one e0 ?_
 all_goals (refine S.nil ?_; simp only [ze, simprocAttr, e0]; apply_assumption)
 refine AW.ret ?_
 all_goals simp only [zs, simprocAttr]
 exact .inr ⟨k2, rfl, by simp [hpK]⟩
def Nd.fewT (n : Nd) : Prop := n.para fun n l => n.tests.length < 1048576 ∧ ∀ p ∈ l, p
theorem Nd.fewT_eq (n : Nd) : n.fewT = (n.tests.length < 1048576 ∧ ∀ p ∈ n.kids.map Nd.fewT, p) := Nd.para_eq _ n
theorem Nd.fewT.own {n : Nd} (h : n.fewT) : n.tests.length < 1048576 := by rw [Nd.fewT_eq] at h; exact h.1
theorem Nd.fewT.kid {n x : Nd} (h : n.fewT) (hx : x ∈ n.kids) : x.fewT := by rw [Nd.fewT_eq] at h; exact h.2 _ (List.mem_map_of_mem hx)
def KidH (n : Nd) (u : V) (σ : Hp) : Prop := (u = .sl [] ∧ n.kids = [] ∧ σ = Hp.empty) ∨ ∃ k, u = .gl k ∧ σ = hpK k n.kids
theorem cloneNode_spec : ∀ n : Nd, n.small → n.fewT → PCalls Tryz.prog 72 [.agg (encNd n)] (fun v => v = .agg (encNd n)) := Nd.ind fun n ih hn hf => by
 have ht := hf.own
 have hE := (encNd_eq n).symm
 rw [encNd_eq]
 refine PCalls.intro Tryz.call72 Tryz.func72 rfl Tryz.ntmps72 Tryz.results72 (by simp) ?_
 refine AW.sr trivial ?_
 refine AW.seq_j (fun s' σ' => s'.t 1 = .lp 1 0 ∧ s'.t 2 = .lp 2 0 ∧ (∃ z, s'.l 2 = some z ∧ z.length = 5) ∧ ∃ u, s'.l 1 = some [.c (.int .i64 n.kind), .c (.string n.var), .c (.string n.type), .sl (n.tests.map encC), u] ∧ KidH n u σ') ?_ ?_
 ·skip
  refine AW.dT { sd := fun _ => false } (.st 0 0 (.st 3 0 (.fork 1 (.fork 2 (.st 4 2 (.st 6 0 (.st 5 2 (.st 7 2 (.st 8 0 (.st 9 2 .nil)))))) 4 (.st 2 2 (.st 6 0 (.st 5 2 (.st 7 2 (.st 8 0 (.st 9 2 .nil))))))) 4 (.st 1 2 (.st 2 2 (.st 6 0 (.st 5 2 (.st 7 2 (.st 8 0 (.st 9 2 .nil)))))))))) ?_
  all_goals iterate 2 refine T.onf (J3 @Bool.or_self @kill.eq_1 @kill.eq_2) ?_
  all_goals (try refine T.fork ?_ ?_)
  all_goals have q1q := J3 @Bool.or_self @kill.eq_1 @kill.eq_2
  all_goals first | (refine T.g rfl trivial rfl rfl fun Y Z => ?_; simp only [zz, simprocAttr, -Int.reduceNatCast', -Int.reduceToNat, tt, q1q]; refine Z _ _ ?_; clear Z Y) | (refine T.g rfl trivial rfl rfl fun Y Z => ?_; simp only [zz, simprocAttr, -Int.reduceNatCast', -Int.reduceToNat, tt, q1q]; refine Z _ _ ?_; clear Z Y)
  all_goals (try refine T.fork ?_ ?_)
  all_goals have q2q := J3 @Bool.or_self @kill.eq_1 @kill.eq_2
  all_goals first | (refine T.g rfl trivial rfl rfl fun Y Z => ?_; simp only [zz, simprocAttr, -Int.reduceNatCast', -Int.reduceToNat, q2q]; refine PCalls.eqto (cloneC_spec n.tests ht) ?_ <;> (refine Z _ _ ?_; clear Z Y)) | (refine T.g rfl trivial rfl rfl fun Y Z => ?_; simp only [zz, simprocAttr, -Int.reduceNatCast', -Int.reduceToNat, tt, q2q]; refine Z _ _ ?_; clear Z Y) | (refine T.g rfl trivial rfl rfl fun Y Z => ?_; simp only [zz, simprocAttr, -Int.reduceNatCast', -Int.reduceToNat, tt, q2q]; refine Z _ _ ?_; clear Z Y)
  all_goals have q3q := J3 @Bool.or_self @kill.eq_1 @kill.eq_2
  all_goals first | (refine T.g rfl trivial rfl rfl fun Y Z => ?_; simp only [zz, simprocAttr, -Int.reduceNatCast', -Int.reduceToNat, q3q]; refine PCalls.eqto (cloneC_spec n.tests ht) ?_ <;> (refine Z _ _ ?_; clear Z Y)) | (refine T.g rfl trivial rfl rfl fun Y Z => ?_; simp only [zz, simprocAttr, -Int.reduceNatCast', -Int.reduceToNat, tt, q3q]; refine Z _ _ ?_; clear Z Y)
  all_goals refine T.onf q3q ?_
  all_goals have q4q := J3 @Bool.or_self @kill.eq_1 @kill.eq_2
  all_goals (refine T.g rfl trivial rfl rfl fun Y Z => ?_; simp only [zz, simprocAttr, -Int.reduceNatCast', -Int.reduceToNat, q4q]; (refine ACalls.to (cloneK_spec n.kids hn.len) ?_; rintro v1 σ1 (⟨rfl, hk0, rfl⟩ | ⟨k, rfl, rfl⟩)) <;> (refine Z _ _ ?_; clear Z Y))
  all_goals iterate 3 refine T.onf q4q ?_
  all_goals refine T.nil ?_
  all_goals simp only [ze, simprocAttr, q4q]
  all_goals first | exact ⟨⟨_, rfl, rfl⟩, _, rfl, .inl ⟨rfl, hk0, rfl⟩⟩ | exact ⟨⟨_, rfl, rfl⟩, _, rfl, .inr ⟨k, rfl, rfl⟩⟩
 rintro s σ ⟨e1, e2, ⟨z, l2, hz5⟩, u, l1, hu⟩
 have hlen := hn.len
 refine AW.seq_j (fun s' σ' => σ' = σ ∧ s'.t 1 = .lp 1 0 ∧ s'.t 2 = .lp 2 0 ∧ s'.l 2 = some z ∧ s'.l 1 = some [.c (.int .i64 n.kind), .c (.string n.var), .c (.string n.type), .sl (n.tests.map encC), u]) ?_ ?_
 ·refine AW.seq_j (fun s' σ' => σ' = σ ∧ s'.t 1 = .lp 1 0 ∧ s'.t 2 = .lp 2 0 ∧ s'.l 2 = some z ∧ s'.l 1 = some [.c (.int .i64 n.kind), .c (.string n.var), .c (.string n.type), .sl (n.tests.map encC), u] ∧ s'.t 14 = u ∧ s'.t 15 = .c (.int .i64 (n.kids.length : Nat)) ∧ s'.t 16 = .c (.int .i64 (0 : Nat))) ?_ ?_
  ·rcases hu with ⟨rfl, hk0, rfl⟩ | ⟨k, rfl, rfl⟩
   ·skip
    have q5q := J4 e1 e2 l1 l2
    refine AW.reg0 (S.rn q5q ?_)
    simp only [ze, simprocAttr, q5q]
    all_goals ((try and_intros) <;> first | rfl | assumption | ((rw [hk0]; rfl)))
   ·have hgr : (hpK k n.kids).gr k = some ((25, 5), n.kids.map encNd) := by simp [hpK]
    have q6q := J6 e1 e2 l1 l2 hgr @List.length_map.{0,0}
    refine AW.reg0 (S.rn q6q ?_)
    simp only [ze, simprocAttr, q6q]
    all_goals ((try and_intros) <;> first | rfl | assumption | (rfl))
  clear e1 e2 l1 l2 s
  rintro s σ1 ⟨hs1, e1, e2, l2, l1, e14, e15, e16⟩
  have hs1 := hs1.symm
  subst hs1
  refine AW.block ?_   -- 0
  refine AW.loop (fun m s σ' => σ' = σ ∧ ∃ i : Nat, m + i = n.kids.length ∧ s.t 1 = .lp 1 0 ∧ s.t 2 = .lp 2 0 ∧ s.l 2 = some z ∧ s.l 1 = some [.c (.int .i64 n.kind), .c (.string n.var), .c (.string n.type), .sl (n.tests.map encC), u] ∧ s.t 14 = u ∧ s.t 15 = .c (.int .i64 (n.kids.length : Nat)) ∧ s.t 16 = .c (.int .i64 (i : Nat))) n.kids.length ?_ ?_
  ·exact ⟨rfl, 0, by simp, e1, e2, l2, l1, e14, e15, e16⟩
  clear e1 e2 l1 l2 e14 e15 e16 s
  rintro m s σ1 ⟨hs1, i, hm, e1, e2, l2, l1, e14, e15, e16⟩
  have hs1 := hs1.symm
  subst hs1
  all_goals refine AW.sr (J2 e15 e16) ?_
  refine AW.seq_k fun K3 h3 => ?_
  refine AW.cond (b := decide (i < n.kids.length)) (by simp [ev]) (fun hi => ?_) (fun hi => ?_)
  ·have hi := of_decide_eq_true hi
   have hw := wadd1 (a := i) (by omega)
   rcases hu with ⟨rfl, hk0, rfl⟩ | ⟨k, rfl, rfl⟩
   ·rw [hk0] at hi; simp at hi
   have hgr : (hpK k n.kids).gr k = some ((25, 5), n.kids.map encNd) := by simp [hpK]
   have hx : n.kids[i]? = some n.kids[i] := List.getElem?_eq_getElem hi
   have hxm : n.kids[i] ∈ n.kids := List.getElem_mem hi
   have hg : (n.kids.map encNd).getD i [] = encNd n.kids[i] := getD_map hi
   have hset : (n.kids.map encNd).set i (encNd n.kids[i]) = n.kids.map encNd := by rw [← List.map_set, List.set_getElem_self]
   generalize n.kids[i] = x at hx hxm hg hset
   have hxs := hn.kid hxm
   have hxf := hf.kid hxm
   refine AW.skip ?_
   all_goals simp only [zs, simprocAttr]
   all_goals apply_assumption
   refine AW.seq_j (fun s' σ' => σ' = hpK k n.kids ∧ s'.t 1 = .lp 1 0 ∧ s'.t 2 = .lp 2 0 ∧ s'.l 2 = some z ∧ s'.l 1 = some [.c (.int .i64 n.kind), .c (.string n.var), .c (.string n.type), .sl (n.tests.map encC), .gl k] ∧ s'.t 14 = .gl k ∧ s'.t 15 = .c (.int .i64 (n.kids.length : Nat)) ∧ s'.t 16 = .c (.int .i64 (i : Nat))) ?_ ?_
   ·refine AW.block ?_   -- 1
    refine AW.seq_j (fun s' σ' => σ' = hpK k n.kids ∧ s'.t 1 = .lp 1 0 ∧ s'.t 2 = .lp 2 0 ∧ s'.l 2 = some z ∧ s'.l 1 = some [.c (.int .i64 n.kind), .c (.string n.var), .c (.string n.type), .sl (n.tests.map encC), .gl k] ∧ s'.t 14 = .gl k ∧ s'.t 15 = .c (.int .i64 (n.kids.length : Nat)) ∧ s'.t 16 = .c (.int .i64 (i : Nat)) ∧ s'.t 3 = .c (.int .i64 (i : Nat)) ∧ s'.t 4 = .lp 4 0 ∧ s'.l 4 = some (encNd x)) ?_ ?_
    ·generalize hsg : hpK k n.kids = σ5 at hgr ⊢
     have q7q := J12 e1 e2 l1 l2 e14 e15 e16 hgr hi hg @nd @List.length_map.{0,0}
     refine AW.reg0 (S.rn q7q ?_)
     simp only [ze, simprocAttr, q7q]
     all_goals ((try and_intros) <;> first | rfl | assumption | (rfl))
    clear e1 e2 l1 l2 e14 e15 e16 s
    rintro s σ1 ⟨hs1, e1, e2, l2, l1, e14, e15, e16, e3, e4, l4⟩
    subst hs1
    unfold hpK at hgr ⊢
    all_goals refine AW.dT { sd := fun _ => false } (.st 0 0 (.st 2 0 (.fork 1 (.st 3 2 (.st 4 2 (.st 5 0 (.st 6 2 .nil)))) 3 (.fork 1 (.st 4 2 (.st 5 0 (.st 6 2 .nil))) 4 (.st 1 2 (.st 5 0 (.st 6 2 .nil))))))) ?_
    all_goals iterate 2 refine T.onf (J12 @Bool.or_self @kill.eq_1 @kill.eq_2 e1 e2 l1 l2 e3 e4 l4 e14 (J8 e15 e16 hgr hi hg hset @nd @List.length_map.{0,0})) ?_
    all_goals (try refine T.fork ?_ ?_)
    all_goals have q8q := J12 @Bool.or_self @kill.eq_1 @kill.eq_2 e1 e2 l1 l2 e3 e4 l4 e14 (J8 e15 e16 hgr hi hg hset @nd @List.length_map.{0,0})
    all_goals first | (refine T.g rfl trivial rfl rfl fun Y Z => ?_; simp only [zz, simprocAttr, -Int.reduceNatCast', -Int.reduceToNat, tt, q8q]; refine Z _ _ ?_; clear Z Y) | (refine T.g rfl trivial rfl rfl fun Y Z => ?_; simp only [zz, simprocAttr, -Int.reduceNatCast', -Int.reduceToNat, tt, q8q]; refine Z _ _ ?_; clear Z Y)
    all_goals (try refine T.fork ?_ ?_)
    all_goals have q9q := J12 @Bool.or_self @kill.eq_1 @kill.eq_2 e1 e2 l1 l2 e3 e4 l4 e14 (J8 e15 e16 hgr hi hg hset @nd @List.length_map.{0,0})
    all_goals first | (refine T.g rfl trivial rfl rfl fun Y Z => ?_; simp only [zz, simprocAttr, -Int.reduceNatCast', -Int.reduceToNat, q9q]; refine PCalls.eqto (ih x hxm hxs hxf) ?_ <;> (refine Z _ _ ?_; clear Z Y)) | (refine T.g rfl trivial rfl rfl fun Y Z => ?_; simp only [zz, simprocAttr, -Int.reduceNatCast', -Int.reduceToNat, tt, q9q]; refine Z _ _ ?_; clear Z Y) | (refine T.g rfl trivial rfl rfl fun Y Z => ?_; simp only [zz, simprocAttr, -Int.reduceNatCast', -Int.reduceToNat, tt, q9q]; refine Z _ _ ?_; clear Z Y)
    all_goals have q10q := J12 @Bool.or_self @kill.eq_1 @kill.eq_2 e1 e2 l1 l2 e3 e4 l4 e14 (J8 e15 e16 hgr hi hg hset @nd @List.length_map.{0,0})
    all_goals first | (refine T.g rfl trivial rfl rfl fun Y Z => ?_; simp only [zz, simprocAttr, -Int.reduceNatCast', -Int.reduceToNat, q10q]; refine PCalls.eqto (ih x hxm hxs hxf) ?_ <;> (refine Z _ _ ?_; clear Z Y)) | (refine T.g rfl trivial rfl rfl fun Y Z => ?_; simp only [zz, simprocAttr, -Int.reduceNatCast', -Int.reduceToNat, tt, q10q]; refine Z _ _ ?_; clear Z Y)
    all_goals iterate 2 refine T.onf q10q ?_
    all_goals refine T.nil ?_
    all_goals simp only [ze, simprocAttr, q10q]
    all_goals ((try and_intros) <;> first | rfl | assumption | (rfl))
   clear e1 e2 l1 l2 e14 e15 e16 s
   rintro s σ1 ⟨hs1, e1, e2, l2, l1, e14, e15, e16⟩
   subst hs1
   all_goals have q11q := J8 e1 e2 l1 l2 e14 e15 e16 hw
   all_goals refine AW.reg0 (S.rn q11q ?_)
   all_goals simp only [ze, simprocAttr, q11q]
   refine ⟨m - 1, by omega, i + 1, by omega, ?_⟩
   all_goals ((try and_intros) <;> first | rfl | assumption | (rfl))
  ·refine AW.exit ?_
   simp only [zs, simprocAttr]
   exact ⟨e1, e2, l2, l1⟩
 clear e1 e2 l1 l2 s
 rintro s σ1 ⟨hs1, e1, e2, l2, l1⟩
 have hs1 := hs1.symm
 subst hs1
 rcases hu with ⟨rfl, hk0, rfl⟩ | ⟨k, rfl, rfl⟩
 ·refine AW.sr (J5 e1 e2 l1 l2 hz5) ?_
  refine AW.ret ?_
  simp only [zs, simprocAttr, zz, tt, e1, e2, l1, l2]
  all_goals ((try and_intros) <;> first | rfl | assumption | (((rw [hk0]) <;> rfl)))
 ·refine AW.freeze (k := k) (T := (25, 5)) (es := n.kids.map encNd) (by simp only [hpK, Hp.setGr_gr, if_true]) ?_
  have hem : (hpK k n.kids).setGr k none = Hp.empty := by simp [hpK]
  rw [hem]
  refine AW.sr (J12 @St.fz_t @St.fz_l @fzV.eq_1 @fzV.eq_2 @fz1.eq_1 @fz1.eq_2 @Option.map_some.{0,0} @List.map.eq_1.{0,0} @List.map.eq_2.{0,0} e1 e2 (J3 l1 l2 hz5)) ?_
  refine AW.ret ?_
  simp only [zs, simprocAttr, zz, tt, St.fz_t, St.fz_l, fzV, fz1, Option.map_some, List.map, e1, e2, l1, l2]
  all_goals ((try and_intros) <;> first | rfl | assumption | (rfl))
theorem clonePat_spec (p : Pat) (hn : p.node.small) (hf : p.node.fewT) (hc : p.conds.length < 1048576) : PCalls Tryz.prog 34 [.agg (encPat p)] (fun v => v = .agg (encPat p)) := by
 have hcl := cloneNode_spec p.node hn hf
 rw [encNd_eq] at hcl
 refine PCalls.intro Tryz.call34 Tryz.func34 rfl Tryz.ntmps34 Tryz.results34 (by simp) ?_
 have q1q := J2 @encPat.eq_1 @nd
 refine AW.sr q1q ?_
 refine AW.seq_k fun K2 h2 => ?_
 refine AW.reg0 ?_
 iterate 2 refine S.one q1q ?_
 have q2q := J2 @encPat.eq_1 @nd
 (refine S.g rfl rfl fun Y Z => ?_; simp only [zz, simprocAttr, -Int.reduceNatCast', -Int.reduceToNat, q2q]; refine PCalls.eqto (cloneC_spec p.conds hc) ?_ <;> (refine Z _ _ ?_; clear Z Y))
 all_goals iterate 2 refine S.one q2q ?_
 all_goals (refine S.nil ?_; simp only [ze, simprocAttr, q2q]; apply_assumption)
 refine AW.seq_k fun K3 h3 => ?_
 all_goals refine AW.reg0 ?_
 all_goals iterate 2 refine S.one q2q ?_
 all_goals have q3q := J2 @encPat.eq_1 @nd
 all_goals (refine S.g rfl rfl fun Y Z => ?_; simp only [zz, simprocAttr, -Int.reduceNatCast', -Int.reduceToNat, q3q]; refine PCalls.eqto hcl ?_ <;> (refine Z _ _ ?_; clear Z Y))
 all_goals iterate 2 refine S.one q3q ?_
 all_goals (refine S.nil ?_; simp only [ze, simprocAttr, q3q]; apply_assumption)
 all_goals refine AW.sr q3q ?_
 refine AW.ret ?_
 all_goals simp only [zs, simprocAttr, zz, tt]
 all_goals ((try and_intros) <;> first | rfl | assumption | (rfl))
end Go.Abs.M
namespace Go.Proofs
open Go.Shelf
def Tryz.itoaL_ren : Go.Shelf.Ren := ⟨fun | 171 => 77 | 243 => 120 | 246 => 162 | 283 => 183 | 284 => 184 | 285 => 185 | 286 => 186 | 129 => 202 | 317 => 216 | 318 => 217 | 319 => 218 | 320 => 219 | 337 => 232 | 338 => 233 | n => n, fun | 3 => 3 | 9 => 9 | 2 => 2 | 4 => 4 | 171 => 218 | 0 => 0 | 53 => 219 | 37 => 158 | 5 => 5 | 173 => 222 | 212 => 250 | 51 => 238 | 20 => 20 | 213 => 251 | 46 => 210 | 232 => 264 | 233 => 265 | n => n, fun | 17 => 0 | 18 => 1 | 19 => 2 | n => n⟩
theorem Tryz.itoaL : Go.Proofs.LaysM.n171 Tryz.prog Tryz.itoaL_ren := {
 mixed := by kernel_rfl
 f129 := Tryz.func202.trans (congrArg some (by kernel_rfl))
 f171 := Tryz.func77.trans (congrArg some (by kernel_rfl))
 f243 := Tryz.func120.trans (congrArg some (by kernel_rfl))
 f246 := Tryz.func162.trans (congrArg some (by kernel_rfl))
 f283 := Tryz.func183.trans (congrArg some (by kernel_rfl))
 f284 := Tryz.func184.trans (congrArg some (by kernel_rfl))
 f285 := Tryz.func185.trans (congrArg some (by kernel_rfl))
 f286 := Tryz.func186.trans (congrArg some (by kernel_rfl))
 f317 := Tryz.func216.trans (congrArg some (by kernel_rfl))
 f318 := Tryz.func217.trans (congrArg some (by kernel_rfl))
 f319 := Tryz.func218.trans (congrArg some (by kernel_rfl))
 f320 := Tryz.func219.trans (congrArg some (by kernel_rfl))
 f337 := Tryz.func232.trans (congrArg some (by kernel_rfl))
 f338 := Tryz.func233.trans (congrArg some (by kernel_rfl))
 t0 := Tryz.underlying0
 a0 := Tryz.isAgg0
 z0 := Tryz.sizeOf0
 v0 := Tryz.zeroValue0
 t2 := Tryz.underlying2
 a2 := Tryz.isAgg2
 z2 := Tryz.sizeOf2
 v2 := Tryz.zeroValue2
 t3 := Tryz.underlying3
 a3 := Tryz.isAgg3
 z3 := Tryz.sizeOf3
 v3 := Tryz.zeroValue3
 t4 := Tryz.underlying4
 a4 := Tryz.isAgg4
 z4 := Tryz.sizeOf4
 v4 := Tryz.zeroValue4
 t5 := Tryz.underlying5
 a5 := Tryz.isAgg5
 z5 := Tryz.sizeOf5
 v5 := Tryz.zeroValue5
 t9 := Tryz.underlying9
 a9 := Tryz.isAgg9
 z9 := Tryz.sizeOf9
 v9 := Tryz.zeroValue9
 t20 := Tryz.underlying20
 a20 := Tryz.isAgg20
 z20 := Tryz.sizeOf20
 v20 := Tryz.zeroValue20
 t37 := Tryz.underlying158
 a37 := Tryz.isAgg158
 z37 := Tryz.sizeOf158
 v37 := Tryz.zeroValue158
 t46 := Tryz.underlying210
 a46 := Tryz.isAgg210
 z46 := Tryz.sizeOf210
 v46 := Tryz.zeroValue210
 t51 := Tryz.underlying238
 a51 := Tryz.isAgg238
 z51 := Tryz.sizeOf238
 v51 := Tryz.zeroValue238
 t53 := Tryz.underlying219
 a53 := Tryz.isAgg219
 z53 := Tryz.sizeOf219
 v53 := Tryz.zeroValue219
 t171 := Tryz.underlying218
 a171 := Tryz.isAgg218
 z171 := Tryz.sizeOf218
 v171 := Tryz.zeroValue218
 t173 := Tryz.underlying222
 a173 := Tryz.isAgg222
 z173 := Tryz.sizeOf222
 v173 := Tryz.zeroValue222
 t212 := Tryz.underlying250
 a212 := Tryz.isAgg250
 z212 := Tryz.sizeOf250
 v212 := Tryz.zeroValue250
 t213 := Tryz.underlying251
 a213 := Tryz.isAgg251
 z213 := Tryz.sizeOf251
 t232 := Tryz.underlying264
 a232 := Tryz.isAgg264
 z232 := Tryz.sizeOf264
 v232 := Tryz.zeroValue264
 t233 := Tryz.underlying265
 a233 := Tryz.isAgg265
 z233 := Tryz.sizeOf265
 v233 := Tryz.zeroValue265
 g17 := by kernel_rfl
 g18 := by kernel_rfl
 g19 := by kernel_rfl
 i0 := by kernel_rfl
 i2 := by kernel_rfl
 i3 := by kernel_rfl
 i4 := by kernel_rfl
 i5 := by kernel_rfl
 i9 := by kernel_rfl
 i20 := by kernel_rfl
 i37 := by kernel_rfl
 i46 := by kernel_rfl
 i51 := by kernel_rfl
 i53 := by kernel_rfl
 i171 := by kernel_rfl
 i173 := by kernel_rfl
 i212 := by kernel_rfl
 i232 := by kernel_rfl
 i233 := by kernel_rfl
 m17 := by kernel_rfl
 m18 := by kernel_rfl
 m19 := by kernel_rfl }
def Tryz.fmtL_ren : Go.Shelf.Ren := ⟨fun | 173 => 121 | 246 => 162 | 283 => 183 | 284 => 184 | 285 => 185 | 286 => 186 | 129 => 202 | 317 => 216 | 318 => 217 | 319 => 218 | 320 => 219 | 337 => 232 | 338 => 233 | n => n, fun | 2 => 2 | 3 => 3 | 9 => 9 | 4 => 4 | 171 => 218 | 0 => 0 | 53 => 219 | 37 => 158 | 5 => 5 | 173 => 222 | 212 => 250 | 51 => 238 | 20 => 20 | 213 => 251 | 46 => 210 | 232 => 264 | 233 => 265 | n => n, fun | 17 => 0 | 18 => 1 | 19 => 2 | n => n⟩
theorem Tryz.fmtL : Go.Proofs.LaysM.n173 Tryz.prog Tryz.fmtL_ren := {
 mixed := by kernel_rfl
 f129 := Tryz.func202.trans (congrArg some (by kernel_rfl))
 f173 := Tryz.func121.trans (congrArg some (by kernel_rfl))
 f246 := Tryz.func162.trans (congrArg some (by kernel_rfl))
 f283 := Tryz.func183.trans (congrArg some (by kernel_rfl))
 f284 := Tryz.func184.trans (congrArg some (by kernel_rfl))
 f285 := Tryz.func185.trans (congrArg some (by kernel_rfl))
 f286 := Tryz.func186.trans (congrArg some (by kernel_rfl))
 f317 := Tryz.func216.trans (congrArg some (by kernel_rfl))
 f318 := Tryz.func217.trans (congrArg some (by kernel_rfl))
 f319 := Tryz.func218.trans (congrArg some (by kernel_rfl))
 f320 := Tryz.func219.trans (congrArg some (by kernel_rfl))
 f337 := Tryz.func232.trans (congrArg some (by kernel_rfl))
 f338 := Tryz.func233.trans (congrArg some (by kernel_rfl))
 t0 := Tryz.underlying0
 a0 := Tryz.isAgg0
 z0 := Tryz.sizeOf0
 v0 := Tryz.zeroValue0
 t2 := Tryz.underlying2
 a2 := Tryz.isAgg2
 z2 := Tryz.sizeOf2
 v2 := Tryz.zeroValue2
 t3 := Tryz.underlying3
 a3 := Tryz.isAgg3
 z3 := Tryz.sizeOf3
 v3 := Tryz.zeroValue3
 t4 := Tryz.underlying4
 a4 := Tryz.isAgg4
 z4 := Tryz.sizeOf4
 v4 := Tryz.zeroValue4
 t5 := Tryz.underlying5
 a5 := Tryz.isAgg5
 z5 := Tryz.sizeOf5
 v5 := Tryz.zeroValue5
 t9 := Tryz.underlying9
 a9 := Tryz.isAgg9
 z9 := Tryz.sizeOf9
 v9 := Tryz.zeroValue9
 t20 := Tryz.underlying20
 a20 := Tryz.isAgg20
 z20 := Tryz.sizeOf20
 v20 := Tryz.zeroValue20
 t37 := Tryz.underlying158
 a37 := Tryz.isAgg158
 z37 := Tryz.sizeOf158
 v37 := Tryz.zeroValue158
 t46 := Tryz.underlying210
 a46 := Tryz.isAgg210
 z46 := Tryz.sizeOf210
 v46 := Tryz.zeroValue210
 t51 := Tryz.underlying238
 a51 := Tryz.isAgg238
 z51 := Tryz.sizeOf238
 v51 := Tryz.zeroValue238
 t53 := Tryz.underlying219
 a53 := Tryz.isAgg219
 z53 := Tryz.sizeOf219
 v53 := Tryz.zeroValue219
 t171 := Tryz.underlying218
 a171 := Tryz.isAgg218
 z171 := Tryz.sizeOf218
 v171 := Tryz.zeroValue218
 t173 := Tryz.underlying222
 a173 := Tryz.isAgg222
 z173 := Tryz.sizeOf222
 v173 := Tryz.zeroValue222
 t212 := Tryz.underlying250
 a212 := Tryz.isAgg250
 z212 := Tryz.sizeOf250
 v212 := Tryz.zeroValue250
 t213 := Tryz.underlying251
 a213 := Tryz.isAgg251
 z213 := Tryz.sizeOf251
 t232 := Tryz.underlying264
 a232 := Tryz.isAgg264
 z232 := Tryz.sizeOf264
 v232 := Tryz.zeroValue264
 t233 := Tryz.underlying265
 a233 := Tryz.isAgg265
 z233 := Tryz.sizeOf265
 v233 := Tryz.zeroValue265
 g17 := by kernel_rfl
 g18 := by kernel_rfl
 g19 := by kernel_rfl
 i0 := by kernel_rfl
 i2 := by kernel_rfl
 i3 := by kernel_rfl
 i4 := by kernel_rfl
 i5 := by kernel_rfl
 i9 := by kernel_rfl
 i20 := by kernel_rfl
 i37 := by kernel_rfl
 i46 := by kernel_rfl
 i51 := by kernel_rfl
 i53 := by kernel_rfl
 i171 := by kernel_rfl
 i173 := by kernel_rfl
 i212 := by kernel_rfl
 i232 := by kernel_rfl
 i233 := by kernel_rfl
 m17 := by kernel_rfl
 m18 := by kernel_rfl
 m19 := by kernel_rfl }
end Go.Proofs
namespace Go.Abs.M
open Go Go.Abs Go.Proofs
def tabV (tq : Nat × Nat × Nat) : List V := toldV (Lib.pow10Tab.map fun z => Value.int .u64 z) tq.1 tq.2.1 tq.2.2
theorem gTab : Tryz.prog.globalNamed "internal/strconv.uint64pow10" = some 0 := by kernel_rfl
theorem VRs.consts {w : World} {cx : Cx} : ∀ {vs xs : List Value}, VRs w cx (vs.map V.c) xs → xs = vs
  | [], xs, h => h.unnil
  | v :: vs, xs, h => by
    obtain ⟨y, zs, rfl, _, h2, h3⟩ := VRs.uncons h
    cases h2
    rw [VRs.consts h3]
variable {tq : Nat × Nat × Nat}
theorem tab_at {cx : Cx} {σ : Hp} {w : World} (hH : HR cx σ w) (hg : σ.obj 0 = some (tabV tq)) : w.heap[0]? = some (.cells ⟨Lib.pow10Tab.map fun z => Value.int .u64 z⟩ tq.1 (tq.2.1, tq.2.2)) := by
  obtain ⟨o, ho, hr⟩ := hH.obj 0 _ hg
  generalize hv : tabV tq = vs at hr
  cases hr with
  | cells h =>
    subst hv
    obtain ⟨x, ys, rfl, h1, h2, _⟩ := VRs.uncons h
    cases h2
    cases h1
  | @map es ms clock hn hh hb hc =>
    have h1 : es[0]? = some .junk := by injection hv with hv; injection hv with hv; rw [← hv]; rfl
    have hl : 0 < ms.length := by rw [← hn]; exact (List.getElem?_eq_some_iff.1 h1).1
    obtain ⟨v, h2, _⟩ := hh 0 _ _ h1 (List.getElem?_eq_getElem hl)
    cases h2
  | told us T p q =>
    simp only [tabV, toldV, List.cons.injEq, V.tup.injEq, V.c.injEq, Value.int.injEq, true_and, and_true, Int.natCast_inj] at hv
    obtain ⟨h1, h2, h3, h4⟩ := hv
    have h5 : us = Lib.pow10Tab.map fun z => Value.int .u64 z := (List.map_inj_right (f := V.c) (fun a b e => by injection e)).1 h4.symm
    rw [ho, h5, ← h1, ← h2, ← h3]
theorem tab_is {cx : Cx} {σ : Hp} {w : World} (hH : HR cx σ w) (hg : σ.obj 0 = some (tabV tq)) : Lib.TabIs Tryz.prog w "internal/strconv.uint64pow10" .u64 Lib.pow10Tab := by
 have ho := tab_at hH hg
 unfold Lib.TabIs World.var?
 rw [gTab]
 simp only [Option.bind_some, ho]
theorem left_grow {cx : Cx} {σ : Hp} {w : World} (hH : HR cx σ w) (k : Nat) (os : Array Obj) : Left cx σ w cx σ (Sort.grow (w.drewN k) os) := by
 have hs : w.heap.size ≤ (Sort.grow (w.drewN k) os).heap.size := by simp [Sort.grow, World.drewN]
 have hb : ∀ g, g < w.heap.size → (Sort.grow (w.drewN k) os).heap[g]? = w.heap[g]? := fun g hg => by
  simp only [Sort.grow, World.drewN]
  exact Array.getElem?_append_left hg
 exact ⟨hH.new (.refl _) (fun _ h => .inl h) hs hb, ⟨rfl, rfl, ⟨rfl, fun h => h.elim⟩, hs, fun g' hg' _ => hb g' hg', .refl _, fun g' hi => .inl hi, fun g' ho => .inl (own_keep hH (.refl _) ho)⟩, fun k x hk => .inl ⟨x, hk⟩, fun g' x hx => .inl ⟨x, hx⟩⟩
theorem itoa_all {σ : Hp} (hg : σ.obj 0 = some (tabV tq)) (n : Int) (h0 : -9223372036854775808 ≤ n) (h1 : n ≤ 9223372036854775807) :
  ACalls Tryz.prog 77 [.c (.int .i64 n)] σ (fun v σ' => σ' = σ ∧ v = .c (.string (bytesOf (Lib.itoa n)))) := by
 refine ⟨Tryz.call77, fun cx w xs hH ha => ?_⟩
 have hx : xs = [.int .i64 n] := ha.consts (vs := [.int .i64 n])
 subst hx
 refine (Any.strconv_Itoa Tryz.itoaL n h0 h1 w (tab_is hH hg)).mono fun e w' ⟨he, k, os, hw⟩ => ?_
 subst hw
 exact ⟨_, _, cx, σ, he, .c _, left_grow hH k os, rfl, rfl⟩
theorem fmt_all {σ : Hp} (hg : σ.obj 0 = some (tabV tq)) (n : Int) (h0 : -9223372036854775808 ≤ n) (h1 : n ≤ 9223372036854775807) :
  ACalls Tryz.prog 121 [.c (.int .i64 n), .c (.int .i64 10)] σ (fun v σ' => σ' = σ ∧ v = .c (.string (bytesOf (Lib.itoa n)))) := by
 refine ⟨Tryz.call121, fun cx w xs hH ha => ?_⟩
 have hx : xs = [.int .i64 n, .int .i64 10] := ha.consts (vs := [.int .i64 n, .int .i64 10])
 subst hx
 refine (Any.strconv_FormatInt_10 Tryz.fmtL n h0 h1 w (tab_is hH hg)).mono fun e w' ⟨he, k, os, hw⟩ => ?_
 subst hw
 exact ⟨_, _, cx, σ, he, .c _, left_grow hH k os, rfl, rfl⟩
end Go.Abs.M
namespace Go.Abs.M
open Go Go.Abs Go.Proofs
set_option maxRecDepth 20000
def itoaB (n : Int) : ByteArray := bytesOf (Lib.itoa n)
theorem itoaB_size (n : Int) (h0 : -9223372036854775808 ≤ n) (h1 : n ≤ 9223372036854775807) : (itoaB n).size ≤ 21 := by
 have := Lib.itoa_length_le n h0 h1
 simpa [itoaB, bytesOf, ByteArray.size] using this
def wordB (s : ByteArray) : ByteArray := itoaB s.size ++ ⟨#[58]⟩ ++ s
theorem word_spec {tq : Nat × Nat × Nat} {σ : Hp} (hg : σ.obj 0 = some (tabV tq)) (s : ByteArray) (hs : s.size ≤ 4611686018427387904) : ACalls Tryz.prog 78 [.c (.string s)] σ (fun v σ' => σ' = σ ∧ v = .c (.string (wordB s))) := by
 refine ACalls.intro Tryz.call78 Tryz.func78 rfl Tryz.ntmps78 Tryz.results78 (by simp) ?_
 have hb := itoaB_size s.size (by omega) (by omega)
 have h58 : (⟨#[58]⟩ : ByteArray).size = 1 := rfl
 have y1 : ((itoaB s.size).size + (⟨#[58]⟩ : ByteArray).size ≤ 9223372036854775807) = True := eq_true (by omega)
 have y2 : ((itoaB s.size ++ ⟨#[58]⟩).size + s.size ≤ 9223372036854775807) = True := eq_true (by rw [ByteArray.size_append]; omega)
 unfold itoaB at y1 y2
 refine AW.sr trivial ?_
 refine AW.seq_k fun K2 h2 => ?_
 refine AW.reg0 ?_
 iterate 2 refine S.one (J2 y1 y2) ?_
 (refine S.g rfl rfl fun Y Z => ?_; simp only [zz, simprocAttr, -Int.reduceNatCast', -Int.reduceToNat, y1, y2]; (refine ACalls.to (itoa_all hg _ (by omega) (by omega)) ?_; rintro v1 σ1 ⟨hs1, rfl⟩; have hs1 := hs1.symm; subst hs1) <;> (refine Z _ _ ?_; clear Z Y))
 all_goals iterate 4 refine S.one (J2 y1 y2) ?_
 all_goals (refine S.nil ?_; simp only [ze, simprocAttr, y1, y2]; apply_assumption)
 refine AW.ret ?_
 all_goals simp only [zs, simprocAttr]
 all_goals ((try and_intros) <;> first | rfl | assumption | (rfl))
theorem wordB_size (s : ByteArray) (hs : s.size ≤ 4611686018427387904) : (wordB s).size ≤ s.size + 22 := by
 have hb := itoaB_size s.size (by omega) (by omega)
 have h58 : (⟨#[58]⟩ : ByteArray).size = 1 := rfl
 rw [wordB, ByteArray.size_append, ByteArray.size_append]; omega
def sp : ByteArray := ⟨#[32]⟩
def opdB (o : Opd) : ByteArray := sp ++ wordB o.var ++ wordB o.attr ++ itoaB o.v.kind ++ sp ++ itoaB o.v.n ++ sp ++ wordB o.v.s
def stepB (s : ByteArray) (c : Cnd) : ByteArray := s ++ opdB c.l ++ opdB c.r ++ (sp ++ itoaB c.rel)
def condsB (l : List Cnd) : ByteArray := l.foldl stepB (itoaB l.length)
structure keyO (o : Opd) : Prop where
  var : o.var.size ≤ 1048576
  attr : o.attr.size ≤ 1048576
  s : o.v.s.size ≤ 1048576
  kind : inI64 o.v.kind
  n : inI64 o.v.n
structure keyC (c : Cnd) : Prop where
  l : keyO c.l
  r : keyO c.r
  rel : inI64 c.rel
theorem opdB_size {o : Opd} (hk : keyO o) : (opdB o).size ≤ 4194304 := by
 have a1 := wordB_size o.var (by have := hk.var; omega)
 have a2 := wordB_size o.attr (by have := hk.attr; omega)
 have a3 := wordB_size o.v.s (by have := hk.s; omega)
 have b1 := itoaB_size o.v.kind hk.kind.1 hk.kind.2
 have b2 := itoaB_size o.v.n hk.n.1 hk.n.2
 have := hk.var; have := hk.attr; have := hk.s
 have hsp : sp.size = 1 := rfl
 simp only [opdB, ByteArray.size_append]
 omega
theorem le_true {a : ByteArray} {n : Nat} (h : a.size + n ≤ 9223372036854775807) : (a.size + n ≤ 9223372036854775807) = True := eq_true h
theorem stepB_size {s : ByteArray} {c : Cnd} (hk : keyC c) : (stepB s c).size ≤ s.size + 8388640 := by
 have a1 := opdB_size hk.l
 have a2 := opdB_size hk.r
 have a3 := itoaB_size c.rel hk.rel.1 hk.rel.2
 have hsp : sp.size = 1 := rfl
 simp only [stepB, ByteArray.size_append]
 omega
theorem condsT_spec {tq : Nat × Nat × Nat} {σ : Hp} (hg : σ.obj 0 = some (tabV tq)) (l : List Cnd) (hl : l.length < 1048576) (hk : ∀ c ∈ l, keyC c) : ACalls Tryz.prog 79 [.sl (l.map encC)] σ (fun v σ' => σ' = σ ∧ v = .c (.string (condsB l))) := by
 refine ACalls.intro Tryz.call79 Tryz.func79 rfl Tryz.ntmps79 Tryz.results79 (by simp) ?_
 refine AW.sr trivial ?_
 refine AW.seq_k fun K2 h2 => ?_
 refine AW.reg0 ?_
 iterate 2 refine S.one @List.length_map.{0,0} ?_
 (refine S.g rfl rfl fun Y Z => ?_; simp only [zz, simprocAttr, -Int.reduceNatCast', -Int.reduceToNat, List.length_map]; (refine ACalls.to (itoa_all hg _ (by omega) (by omega)) ?_; rintro v1 σ1 ⟨hs1, rfl⟩; have hs1 := hs1.symm; subst hs1) <;> (refine Z _ _ ?_; clear Z Y))
 all_goals refine S.one @List.length_map.{0,0} ?_
 all_goals (refine S.nil ?_; simp only [ze, simprocAttr, List.length_map]; apply_assumption)
 refine AW.seq_k fun K3 h3 => ?_
 all_goals refine AW.sr @List.length_map.{0,0} ?_
 refine AW.block ?_   -- 0
 refine AW.loop (fun m s σ' => σ' = σ ∧ ∃ (i : Nat) (cur : ByteArray), m + i = l.length ∧ s.t 3 = .c (.string cur) ∧ s.t 11 = .sl (l.map encC) ∧ s.t 12 = .c (.int .i64 (l.length : Nat)) ∧ s.t 13 = .c (.int .i64 (i : Nat)) ∧ condsB l = (l.drop i).foldl stepB cur ∧ cur.size ≤ 21 + i * 8388640) l.length ?_ ?_
 ·refine ⟨rfl, 0, itoaB l.length, by simp, ?_⟩
  simp only [zs, simprocAttr, -Int.reduceNatCast', -Int.reduceToNat]
  exact ⟨rfl, rfl, rfl, itoaB_size _ (by omega) (by omega)⟩
 rintro m s σ1 ⟨hs1, i, cur, hm, e3, e11, e12, e13, hp, hsz⟩
 have hs1 := hs1.symm
 subst hs1
 all_goals refine AW.sr (J2 e12 e13) ?_
 refine AW.seq_k fun K6 h6 => ?_
 refine AW.cond (b := decide (i < l.length)) (by simp [ev]) (fun hi => ?_) (fun hi => ?_)
 ·have hi := of_decide_eq_true hi
  obtain ⟨x, hx, hgx, hd⟩ := cnd_nth hi
  have hxm : x ∈ l := List.mem_of_getElem? hx
  have hkc := hk x hxm
  have hw := wadd1 (a := i) (by omega)
  rw [hd, List.foldl_cons] at hp
  have hsz2 := stepB_size (s := cur) hkc
  refine AW.skip ?_
  simp only [zs, simprocAttr]
  all_goals apply_assumption
  refine AW.seq_j (fun s' σ' => σ' = σ ∧ s'.t 3 = .c (.string (stepB cur x)) ∧ s'.t 11 = .sl (l.map encC) ∧ s'.t 12 = .c (.int .i64 (l.length : Nat)) ∧ s'.t 13 = .c (.int .i64 (i : Nat))) ?_ ?_
  ·refine AW.block ?_   -- 1
   obtain ⟨ops, hops⟩ : ∃ o, o = [x.l, x.r] := ⟨_, rfl⟩
   have hol : ops.length = 2 := by rw [hops]; rfl
   have hok : ∀ o ∈ ops, keyO o := by rw [hops]; intro o ho; simp only [List.mem_cons, List.not_mem_nil, or_false] at ho; rcases ho with rfl | rfl <;> first | exact hkc.l | exact hkc.r
   refine AW.seq_j (fun s' σ' => σ' = σ ∧ s'.t 3 = .c (.string cur) ∧ s'.t 11 = .sl (l.map encC) ∧ s'.t 12 = .c (.int .i64 (l.length : Nat)) ∧ s'.t 13 = .c (.int .i64 (i : Nat)) ∧ s'.t 5 = .lp 5 0 ∧ s'.l 5 = some (encC x)) ?_ ?_
   ·skip
    refine AW.reg0 (S.rn (J9 e3 e11 e12 e13 hi hgx @encC.eq_1 @encO.eq_1 @List.length_map.{0,0}) ?_)
    simp only [ze, simprocAttr, e3, e11, e12, e13, hi, hgx, encC, encO, List.length_map]
    all_goals ((try and_intros) <;> first | rfl | assumption | (rfl))
   clear e3 e11 e12 e13 s
   rintro s σ1 ⟨hs1, e3, e11, e12, e13, e5, l5⟩
   have hs1 := hs1.symm
   subst hs1
   simp only [encC, encO, List.cons_append, List.nil_append] at l5
   refine AW.seq_j (fun s' σ' => σ' = σ ∧ s'.t 3 = .c (.string (cur ++ opdB x.l ++ opdB x.r)) ∧ s'.t 11 = .sl (l.map encC) ∧ s'.t 12 = .c (.int .i64 (l.length : Nat)) ∧ s'.t 13 = .c (.int .i64 (i : Nat)) ∧ s'.t 5 = .lp 5 0 ∧ s'.l 5 = some (encC x)) ?_ ?_
   ·refine AW.seq_k fun K7 h7 => ?_
    refine AW.reg0 ?_
    iterate 4 refine S.one (J8 e3 e11 e12 e13 e5 l5 @encC.eq_1 @encO.eq_1) ?_
    (refine S.g rfl rfl fun Y Z => ?_; simp only [zb, simprocAttr, -Int.reduceNatCast', -Int.reduceToNat, tt, e3, e11, e12, e13, e5, l5, encC, encO]; refine ⟨by decide, (fun e he => by simp only [List.mem_cons, List.not_mem_nil, or_false] at he; rcases he with rfl | rfl <;> rfl), ?_⟩ <;> (refine Z _ _ ?_; clear Z Y))
    all_goals iterate 2 refine S.one (J8 e3 e11 e12 e13 e5 l5 @encC.eq_1 @encO.eq_1) ?_
    all_goals (refine S.nil ?_; simp only [ze, simprocAttr, e3, e11, e12, e13, e5, l5, encC, encO]; apply_assumption)
    refine AW.block ?_   -- 2
    refine AW.loop (fun m s σ' => σ' = σ ∧ ∃ (j : Nat), m + j = 2 ∧ s.t 3 = .c (.string ((ops.take j).foldl (fun t o => t ++ opdB o) cur)) ∧ s.t 11 = .sl (l.map encC) ∧ s.t 12 = .c (.int .i64 (l.length : Nat)) ∧ s.t 13 = .c (.int .i64 (i : Nat)) ∧ s.t 5 = .lp 5 0 ∧ s.l 5 = some (encC x) ∧ s.t 21 = .sl (ops.map encO) ∧ s.t 22 = .c (.int .i64 2) ∧ s.t 23 = .c (.int .i64 (j : Nat))) 2 ?_ ?_
    ·refine ⟨rfl, 0, by simp, ?_⟩
     simp only [zs, simprocAttr, e3, e11, e12, e13, e5, l5]
     rw [hops]
     all_goals ((try and_intros) <;> first | rfl | assumption | (rfl))
    clear e3 e11 e12 e13 e5 l5 s
    rintro m s σ1 ⟨hs1, j, hm, e3, e11, e12, e13, e5, l5, e21, e22, e23⟩
    have hs1 := hs1.symm
    subst hs1
    all_goals refine AW.sr (J2 e22 e23) ?_
    refine AW.seq_k fun K9 h9 => ?_
    refine AW.cond (b := decide ((j : Int) < 2)) (by simp [ev]) (fun hj => ?_) (fun hj => ?_)
    ·have hj : j < 2 := by have := of_decide_eq_true hj; omega
     have hjl : j < ops.length := by omega
     have hgo : (ops.map encO).getD j [] = encO ops[j] := getD_map hjl
     have hom : ops[j] ∈ ops := List.getElem_mem hjl
     have hst : (ops.take (j + 1)).foldl (fun t o => t ++ opdB o) cur = (ops.take j).foldl (fun t o => t ++ opdB o) cur ++ opdB ops[j] := by
      rw [List.take_add_one, List.getElem?_eq_getElem hjl, List.foldl_append]; rfl
     have hcs : ((ops.take j).foldl (fun t o => t ++ opdB o) cur).size ≤ cur.size + 4194304 := by
      rcases (by omega : j = 0 ∨ j = 1) with rfl | rfl
      ·simp
      ·have := opdB_size hkc.l
       rw [hops]; simp only [List.take_succ_cons, List.take_zero, List.foldl_cons, List.foldl_nil, ByteArray.size_append]; omega
     have hk := hok _ hom
     generalize ops[j] = o at hgo hom hst hk
     generalize (ops.take j).foldl (fun t o => t ++ opdB o) cur = t at e3 hst hcs
     have hwj := wadd1 (a := j) (by omega)
     refine AW.skip ?_
     simp only [zs, simprocAttr]
     all_goals apply_assumption
     refine AW.seq_j (fun s' σ' => σ' = σ ∧ s'.t 3 = .c (.string (t ++ opdB o)) ∧ s'.t 11 = .sl (l.map encC) ∧ s'.t 12 = .c (.int .i64 (l.length : Nat)) ∧ s'.t 13 = .c (.int .i64 (i : Nat)) ∧ s'.t 5 = .lp 5 0 ∧ s'.l 5 = some (encC x) ∧ s'.t 21 = .sl (ops.map encO) ∧ s'.t 22 = .c (.int .i64 2) ∧ s'.t 23 = .c (.int .i64 (j : Nat))) ?_ ?_
     ·refine AW.block ?_   -- 3
      refine AW.seq_j (fun s' σ' => σ' = σ ∧ s'.t 3 = .c (.string t) ∧ s'.t 11 = .sl (l.map encC) ∧ s'.t 12 = .c (.int .i64 (l.length : Nat)) ∧ s'.t 13 = .c (.int .i64 (i : Nat)) ∧ s'.t 5 = .lp 5 0 ∧ s'.l 5 = some (encC x) ∧ s'.t 21 = .sl (ops.map encO) ∧ s'.t 22 = .c (.int .i64 2) ∧ s'.t 23 = .c (.int .i64 (j : Nat)) ∧ s'.t 7 = .lp 7 0 ∧ s'.l 7 = some (encO o)) ?_ ?_
      ·skip
       refine AW.reg0 (S.rn (J12 e3 e11 e12 e13 e5 l5 e21 e22 e23 hjl hj (J4 hol hgo @encO.eq_1 @List.length_map.{0,0})) ?_)
       simp only [ze, simprocAttr, e3, e11, e12, e13, e5, l5, e21, e22, e23, hjl, hj, hol, hgo, encO, List.length_map]
       all_goals ((try and_intros) <;> first | rfl | assumption | (rfl))
      clear e3 e11 e12 e13 e5 l5 e21 e22 e23 s
      rintro s σ1 ⟨hs1, e3, e11, e12, e13, e5, l5, e21, e22, e23, e7, l7⟩
      have hs1 := hs1.symm
      subst hs1
      have a1 := wordB_size o.var (by have := hk.var; omega)
      have a2 := wordB_size o.attr (by have := hk.attr; omega)
      have a3 := wordB_size o.v.s (by have := hk.s; omega)
      have b1 := itoaB_size o.v.kind hk.kind.1 hk.kind.2
      have b2 := itoaB_size o.v.n hk.n.1 hk.n.2
      have := hk.var
      have := hk.attr
      have := hk.s
      have h32 : sp.size = 1 := rfl
      have q1 := le_true (a := sp) (n := (wordB o.var).size) (by omega)
      have q2 := le_true (a := sp ++ wordB o.var) (n := (wordB o.attr).size) (by simp only [ByteArray.size_append]; omega)
      have q3 := le_true (a := sp ++ wordB o.var ++ wordB o.attr) (n := (itoaB o.v.kind).size) (by simp only [ByteArray.size_append]; omega)
      have q4 := le_true (a := sp ++ wordB o.var ++ wordB o.attr ++ itoaB o.v.kind) (n := sp.size) (by simp only [ByteArray.size_append]; omega)
      have q5 := le_true (a := sp ++ wordB o.var ++ wordB o.attr ++ itoaB o.v.kind ++ sp) (n := (itoaB o.v.n).size) (by simp only [ByteArray.size_append]; omega)
      have q6 := le_true (a := sp ++ wordB o.var ++ wordB o.attr ++ itoaB o.v.kind ++ sp ++ itoaB o.v.n) (n := sp.size) (by simp only [ByteArray.size_append]; omega)
      have q7 := le_true (a := sp ++ wordB o.var ++ wordB o.attr ++ itoaB o.v.kind ++ sp ++ itoaB o.v.n ++ sp) (n := (wordB o.v.s).size) (by simp only [ByteArray.size_append]; omega)
      have q8 := le_true (a := t) (n := (opdB o).size) (by have := opdB_size hk; omega)
      unfold itoaB sp at q1 q2 q3 q4 q5 q6 q7
      unfold opdB itoaB sp at q8
      clear a1 a2 a3 b1 b2 h32
      all_goals refine AW.dT { sd := fun d => d == 7 } (.st 0 0 (.st 1 0 (.st 5 0 (.st 9 0 (.st 10 0 (.st 15 0 (.st 16 0 (.st 21 0 (.st 22 0 (.st 2 1 (.st 6 1 (.st 11 1 (.st 17 1 (.st 23 1 (.st 3 2 (.st 4 0 (.st 7 2 (.st 8 0 (.st 12 2 (.st 13 0 (.st 14 0 (.st 18 2 (.st 19 0 (.st 20 0 (.st 24 2 (.st 25 0 (.st 26 0 (.st 27 0 .nil)))))))))))))))))))))))))))) ?_
      all_goals iterate 14 refine T.onf (J12 @Bool.or_self @kill.eq_1 @kill.eq_2 e3 e11 e12 e13 e5 l5 e21 e22 (J12 e23 e7 l7 @encO.eq_1 q1 q2 q3 q4 q5 q6 q7 q8)) ?_
      all_goals (refine T.g rfl trivial rfl rfl fun Y Z => ?_; simp only [zz, simprocAttr, -Int.reduceNatCast', -Int.reduceToNat, Nat.reduceBEq, Bool.or_self, kill, e3, e11, e12, e13, e5, l5, e21, e22, e23, e7, l7, encO, q1, q2, q3, q4, q5, q6, q7, q8]; (refine ACalls.to (word_spec hg _ (by have := hk.var; omega)) ?_; rintro v1 σ1 ⟨hs1, rfl⟩; have hs1 := hs1.symm; subst hs1) <;> (refine Z _ _ ?_; clear Z Y))
      all_goals refine T.onf (J12 @Bool.or_self @kill.eq_1 @kill.eq_2 e3 e11 e12 e13 e5 l5 e21 e22 (J12 e23 e7 l7 @encO.eq_1 q1 q2 q3 q4 q5 q6 q7 q8)) ?_
      all_goals (refine T.g rfl trivial rfl rfl fun Y Z => ?_; simp only [zz, simprocAttr, -Int.reduceNatCast', -Int.reduceToNat, Nat.reduceBEq, Bool.or_self, kill, e3, e11, e12, e13, e5, l5, e21, e22, e23, e7, l7, encO, q1, q2, q3, q4, q5, q6, q7, q8]; (refine ACalls.to (word_spec hg _ (by have := hk.attr; omega)) ?_; rintro v1 σ1 ⟨hs1, rfl⟩; have hs1 := hs1.symm; subst hs1) <;> (refine Z _ _ ?_; clear Z Y))
      all_goals refine T.onf (J12 @Bool.or_self @kill.eq_1 @kill.eq_2 e3 e11 e12 e13 e5 l5 e21 e22 (J12 e23 e7 l7 @encO.eq_1 q1 q2 q3 q4 q5 q6 q7 q8)) ?_
      all_goals (refine T.g rfl trivial rfl rfl fun Y Z => ?_; simp only [zz, simprocAttr, -Int.reduceNatCast', -Int.reduceToNat, Nat.reduceBEq, Bool.or_self, kill, e3, e11, e12, e13, e5, l5, e21, e22, e23, e7, l7, encO, q1, q2, q3, q4, q5, q6, q7, q8]; (refine ACalls.to (itoa_all hg _ hk.kind.1 hk.kind.2) ?_; rintro v1 σ1 ⟨hs1, rfl⟩; have hs1 := hs1.symm; subst hs1) <;> (refine Z _ _ ?_; clear Z Y))
      all_goals iterate 2 refine T.onf (J12 @Bool.or_self @kill.eq_1 @kill.eq_2 e3 e11 e12 e13 e5 l5 e21 e22 (J12 e23 e7 l7 @encO.eq_1 q1 q2 q3 q4 q5 q6 q7 q8)) ?_
      all_goals (refine T.g rfl trivial rfl rfl fun Y Z => ?_; simp only [zz, simprocAttr, -Int.reduceNatCast', -Int.reduceToNat, Nat.reduceBEq, Bool.or_self, kill, e3, e11, e12, e13, e5, l5, e21, e22, e23, e7, l7, encO, q1, q2, q3, q4, q5, q6, q7, q8]; (refine ACalls.to (fmt_all hg _ hk.n.1 hk.n.2) ?_; rintro v1 σ1 ⟨hs1, rfl⟩; have hs1 := hs1.symm; subst hs1) <;> (refine Z _ _ ?_; clear Z Y))
      all_goals iterate 2 refine T.onf (J12 @Bool.or_self @kill.eq_1 @kill.eq_2 e3 e11 e12 e13 e5 l5 e21 e22 (J12 e23 e7 l7 @encO.eq_1 q1 q2 q3 q4 q5 q6 q7 q8)) ?_
      all_goals (refine T.g rfl trivial rfl rfl fun Y Z => ?_; simp only [zz, simprocAttr, -Int.reduceNatCast', -Int.reduceToNat, Nat.reduceBEq, Bool.or_self, kill, e3, e11, e12, e13, e5, l5, e21, e22, e23, e7, l7, encO, q1, q2, q3, q4, q5, q6, q7, q8]; (refine ACalls.to (word_spec hg _ (by have := hk.s; omega)) ?_; rintro v1 σ1 ⟨hs1, rfl⟩; have hs1 := hs1.symm; subst hs1) <;> (refine Z _ _ ?_; clear Z Y))
      all_goals iterate 3 refine T.onf (J12 @Bool.or_self @kill.eq_1 @kill.eq_2 e3 e11 e12 e13 e5 l5 e21 e22 (J12 e23 e7 l7 @encO.eq_1 q1 q2 q3 q4 q5 q6 q7 q8)) ?_
      all_goals refine T.nil ?_
      all_goals simp only [ze, simprocAttr, Nat.reduceBEq, Bool.or_self, kill, e3, e11, e12, e13, e5, l5, e21, e22, e23, e7, l7, encO, q1, q2, q3, q4, q5, q6, q7, q8]
      all_goals ((try and_intros) <;> first | rfl | assumption | (rfl))
     clear e3 e11 e12 e13 e5 l5 e21 e22 e23 s
     rintro s σ1 ⟨hs1, e3, e11, e12, e13, e5, l5, e21, e22, e23⟩
     have hs1 := hs1.symm
     subst hs1
     all_goals refine AW.reg0 (S.rn (J10 e3 e11 e12 e13 e5 l5 e21 e22 e23 hwj) ?_)
     all_goals simp only [ze, simprocAttr, e3, e11, e12, e13, e5, l5, e21, e22, e23, hwj]
     refine ⟨m - 1, by omega, j + 1, by omega, ?_⟩
     rw [hst]
     all_goals ((try and_intros) <;> first | rfl | assumption | (rfl))
    ·have hj : ¬ j < 2 := by have := of_decide_eq_false hj; omega
     obtain rfl : j = 2 := by omega
     refine AW.exit ?_
     simp only [zs, simprocAttr]
     rw [hops] at e3
     exact ⟨e3, e11, e12, e13, e5, l5⟩
   clear e3 e11 e12 e13 e5 l5 s
   rintro s σ1 ⟨hs1, e3, e11, e12, e13, e5, l5⟩
   have hs1 := hs1.symm
   subst hs1
   simp only [encC, encO, List.cons_append, List.nil_append] at l5
   have b1 := itoaB_size x.rel hkc.rel.1 hkc.rel.2
   have h32 : sp.size = 1 := rfl
   have c1 := opdB_size hkc.l
   have c2 := opdB_size hkc.r
   have q1 := le_true (a := sp) (n := (itoaB x.rel).size) (by omega)
   have q2 := le_true (a := cur ++ opdB x.l ++ opdB x.r) (n := (sp ++ itoaB x.rel).size) (by simp only [ByteArray.size_append]; omega)
   unfold itoaB sp at q1 q2
   all_goals refine AW.reg0 ?_
   all_goals iterate 3 refine S.one (J8 e3 e11 e12 e13 e5 l5 q1 q2) ?_
   all_goals (refine S.g rfl rfl fun Y Z => ?_; simp only [zz, simprocAttr, -Int.reduceNatCast', -Int.reduceToNat, e3, e11, e12, e13, e5, l5, q1, q2]; (refine ACalls.to (itoa_all hg _ hkc.rel.1 hkc.rel.2) ?_; rintro v1 σ1 ⟨hs1, rfl⟩; have hs1 := hs1.symm; subst hs1) <;> (refine Z _ _ ?_; clear Z Y))
   all_goals iterate 3 refine S.one (J8 e3 e11 e12 e13 e5 l5 q1 q2) ?_
   all_goals refine S.nil ?_
   all_goals simp only [ze, simprocAttr, e3, e11, e12, e13, e5, l5, q1, q2]
   all_goals ((try and_intros) <;> first | rfl | assumption | (rfl))
  clear e3 e11 e12 e13 s
  rintro s σ1 ⟨hs1, e3, e11, e12, e13⟩
  have hs1 := hs1.symm
  subst hs1
  all_goals refine AW.reg0 (S.rn (J5 e3 e11 e12 e13 hw) ?_)
  all_goals simp only [ze, simprocAttr, e3, e11, e12, e13, hw]
  refine ⟨m - 1, by omega, i + 1, stepB cur x, by omega, ?_⟩
  all_goals ((try and_intros) <;> first | rfl | assumption | (first | exact hp | omega))
 ·have hi := of_decide_eq_false hi
  refine AW.exit ?_
  simp only [zs, simprocAttr]
  all_goals apply_assumption
  rw [List.drop_of_length_le (by omega)] at hp
  refine AW.sr e3 ?_
  refine AW.ret ?_
  simp only [zs, simprocAttr]
  rw [hp]
  all_goals ((try and_intros) <;> first | rfl | assumption | (rfl))
def entKf : Nat → List ByteArray → List V
  | _, [] => []
  | k, s :: l => .tup [.c (.string s), .c (.int .i64 (k : Nat))] :: entKf (k + 1) l
def entK (l : List ByteArray) : List V := entKf 0 l
theorem entKf_ok : ∀ (l : List ByteArray) (k : Nat), entOk isStr (entKf k l) = true
  | [], _ => rfl
  | s :: l, k => by
    have := entKf_ok l (k + 1)
    simp only [entKf, entOk, isStr, okV, Bool.true_and] at this ⊢
    exact this
theorem entK_ok (l : List ByteArray) : entOk isStr (entK l) = true := entKf_ok l 0
theorem entKf_at (s : ByteArray) : ∀ (l : List ByteArray) (k i : Nat), (s ∉ l ∧ entV (entKf k l) (.string s) i = none) ∨ ∃ j, l[j]? = some s ∧ (∀ q < j, l[q]? ≠ some s) ∧ entV (entKf k l) (.string s) i = some (i + j, .c (.int .i64 ((k + j : Nat) : Int)))
  | [], k, i => .inl ⟨by simp, rfl⟩
  | t :: l, k, i => by
    have hc : entV (entKf k (t :: l)) (.string s) i = if (s.toList == t.toList) then some (i, .c (.int .i64 (k : Nat))) else entV (entKf (k + 1) l) (.string s) (i + 1) := entV_cons (.string t) (.string s) (.c (.int .i64 (k : Nat))) (entKf (k + 1) l) i
    rw [hc]
    cases h : (s.toList == t.toList)
    · have hst : s ≠ t := fun e => by rw [e] at h; simp at h
      rw [if_neg Bool.false_ne_true]
      rcases entKf_at s l (k + 1) (i + 1) with ⟨h1, h2⟩ | ⟨j, h1, h2, h3⟩
      · exact .inl ⟨by simp [hst, h1], h2⟩
      · refine .inr ⟨j + 1, by simpa using h1, fun q hq => ?_, by rw [h3]; congr 2; omega; congr 3; omega⟩
        cases q with
        | zero => simp [Ne.symm hst]
        | succ q => simpa using h2 q (by omega)
    · have e : s = t := eqS_iff.1 h
      exact .inr ⟨0, by rw [e]; rfl, fun q hq => by omega, by rw [if_pos rfl]; rfl⟩
theorem entKf_app (s : ByteArray) : ∀ (l : List ByteArray) (k : Nat), entKf k l ++ [.tup [.c (.string s), .c (.int .i64 ((k + l.length : Nat) : Int))]] = entKf k (l ++ [s])
  | [], k => rfl
  | t :: l, k => by
    have := entKf_app s l (k + 1)
    rw [List.cons_append, entKf, entKf, List.cons_append, ← this, List.length_cons, show k + (l.length + 1) = k + 1 + l.length by omega]
def keyOp (o : OpS) : ByteArray := itoaB o.kind ++ sp ++ wordB o.var ++ wordB o.type ++ condsB o.tests ++ ⟨#[47]⟩ ++ condsB o.conds
def keyB (o : OpS) (f : List Int) : ByteArray := f.foldl (fun k n => k ++ (sp ++ itoaB n)) (keyOp o)
theorem condsB_size (l : List Cnd) (hl : l.length < 1048576) (hk : ∀ c ∈ l, keyC c) : (condsB l).size ≤ 21 + l.length * 8388640 := by
  have : ∀ (r : List Cnd) (s : ByteArray), (∀ c ∈ r, keyC c) → (r.foldl stepB s).size ≤ s.size + r.length * 8388640 := by
    intro r
    induction r with
    | nil => intro s _; simp
    | cons c r ih =>
      intro s h
      have h1 := ih (stepB s c) fun d hd => h d (List.mem_cons_of_mem _ hd)
      have h2 := stepB_size (s := s) (h c List.mem_cons_self)
      rw [List.foldl_cons, List.length_cons]
      omega
  have h1 := this l (itoaB l.length) hk
  have h2 := itoaB_size l.length (by omega) (by omega)
  rw [condsB]; omega
structure keyP (o : OpS) : Prop where
  kind : inI64 o.kind
  var : o.var.size ≤ 1048576
  type : o.type.size ≤ 1048576
  tl : o.tests.length < 1048576
  cl : o.conds.length < 1048576
  tests : ∀ c ∈ o.tests, keyC c
  conds : ∀ c ∈ o.conds, keyC c
theorem keyOp_size {o : OpS} (h : keyP o) : (keyOp o).size ≤ 17592253186048 := by
 have a1 := itoaB_size o.kind h.kind.1 h.kind.2
 have a2 := wordB_size o.var (by have := h.var; omega)
 have a3 := wordB_size o.type (by have := h.type; omega)
 have a4 := condsB_size o.tests h.tl h.tests
 have a5 := condsB_size o.conds h.cl h.conds
 have := h.var; have := h.type; have := h.tl; have := h.cl
 have h32 : sp.size = 1 := rfl
 have h47 : (⟨#[47]⟩ : ByteArray).size = 1 := rfl
 simp only [keyOp, ByteArray.size_append]
 omega
end Go.Abs.M
