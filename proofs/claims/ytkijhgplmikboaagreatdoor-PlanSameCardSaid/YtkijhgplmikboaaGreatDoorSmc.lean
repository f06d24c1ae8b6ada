import Derived.Test.YtkijhgplmikboaaGreatDoorSmb
import Derived.Test.YtkijhgplmikboaaGreatDoorRows
import Derived.Shelf.Strconv.Itoa4
import Derived.Lib.ItoaLen
set_option linter.all false
set_option maxHeartbeats 4000000
namespace Go.Abs.M
open Go Go.Abs Go.Proofs
variable [Mode]
theorem putS_mem (l : List ByteArray) (s v : ByteArray) : v ∈ putS l s ↔ v = s ∨ v ∈ l := by
 unfold putS
 split
 ·rename_i h
  have := hasS_iff.1 h
  exact ⟨.inr, fun h => h.elim (fun e => e ▸ this) id⟩
 ·rw [List.mem_append, List.mem_cons]
  have := List.takeWhile_append_dropWhile (p := (ltS · s)) (l := l)
  conv => rhs; rw [← this, List.mem_append]
  constructor
  ·rintro (h | h | h)
   ·exact .inr (.inl h)
   ·exact .inl h
   ·exact .inr (.inr h)
  ·rintro (h | h | h)
   ·exact .inr (.inl h)
   ·exact .inl h
   ·exact .inr (.inr h)
theorem putAll_mem (kv : List ByteArray) : ∀ (acc : List ByteArray) (v : ByteArray), v ∈ putAll acc kv ↔ v ∈ acc ∨ v ∈ kv := by
  induction kv with
  | nil => intro acc v; simp [putAll]
  | cons s kv ih =>
    intro acc v
    have := ih (putS acc s) v
    simp only [putAll, List.foldl_cons] at this ⊢
    rw [this, putS_mem, List.mem_cons]
    constructor
    · rintro ((h | h) | h)
      · exact .inr (.inl h)
      · exact .inl h
      · exact .inr (.inr h)
    · rintro (h | h | h)
      · exact .inl (.inr h)
      · exact .inl (.inl h)
      · exact .inr h
theorem foldAll_mem (l : List (List ByteArray)) : ∀ (acc : List ByteArray) (v : ByteArray), v ∈ l.foldl putAll acc ↔ v ∈ acc ∨ ∃ k ∈ l, v ∈ k := by
  induction l with
  | nil => intro acc v; simp
  | cons s l ih =>
    intro acc v
    rw [List.foldl_cons, ih, putAll_mem]
    constructor
    · rintro ((h | h) | ⟨k, hk, h⟩)
      · exact .inl h
      · exact .inr ⟨s, List.mem_cons_self, h⟩
      · exact .inr ⟨k, List.mem_cons_of_mem _ hk, h⟩
    · rintro (h | ⟨k, hk, h⟩)
      · exact .inl (.inl h)
      · rcases List.mem_cons.1 hk with rfl | hk
        · exact .inl (.inr h)
        · exact .inr ⟨k, hk, h⟩
theorem Nd.vars_mem (n : Nd) (v : ByteArray) : v ∈ n.vars ↔ (n.var.size ≠ 0 ∧ v = n.var) ∨ ∃ x ∈ n.kids, v ∈ x.vars := by
 rw [Nd.vars_eq, varsOf, foldAll_mem]
 refine or_congr ?_ ?_
 ·split
  ·rename_i h; simp [h]
  ·rename_i h; rw [putS_mem]; simp [h]
 ·simp only [List.mem_map]
  constructor
  ·rintro ⟨k, ⟨x, hx, rfl⟩, h⟩; exact ⟨x, hx, h⟩
  ·rintro ⟨x, hx, h⟩; exact ⟨_, ⟨x, hx, rfl⟩, h⟩
structure Nd.fine (n : Nd) : Prop where
  err : n.err = 0
  binds : n.binds = 0
theorem firstErr_zero : ∀ {l : List Int}, firstErr l = 0 → ∀ e ∈ l, e = 0
  | [], _, e, h => by cases h
  | x :: l, hz, e, h => by
    rw [firstErr] at hz
    split at hz
    · rename_i hx
      rcases List.mem_cons.1 h with rfl | h
      · exact hx
      · exact firstErr_zero hz e h
    · rename_i hx; exact absurd hz hx
theorem Nd.err_own {n : Nd} (h : n.err = 0) : ndOwn n = 0 := by
 rw [Nd.err_eq] at h
 split at h
 ·assumption
 ·exact h
theorem Nd.err_kid {n x : Nd} (h : n.err = 0) (hx : x ∈ n.kids) : x.err = 0 := by
 have h0 := Nd.err_own h
 rw [Nd.err_eq, if_pos h0] at h
 exact firstErr_zero h _ (List.mem_map_of_mem hx)
theorem bindsFrom_zero {k : Bool} : ∀ {l : List (Int × List ByteArray)} {seen : List (List ByteArray)}, bindsFrom k seen l = 0 →
    (∀ x ∈ l, x.1 = 0) ∧ (k = true → (∀ x ∈ l, ∀ o ∈ seen, meets x.2 o = false) ∧ l.Pairwise fun x y => meets y.2 x.2 = false)
  | [], seen, _ => ⟨fun x h => (by cases h), fun _ => ⟨fun x h => (by cases h), .nil⟩⟩
  | (e, kv) :: r, seen, h => by
    rw [bindsFrom] at h
    split at h
    · rename_i he
      split at h
      · cases h
      · rename_i hm
        obtain ⟨h1, h2⟩ := bindsFrom_zero h
        refine ⟨fun x hx => ?_, fun hk => ?_⟩
        · rcases List.mem_cons.1 hx with rfl | hx
          · exact he
          · exact h1 x hx
        · obtain ⟨h3, h4⟩ := h2 hk
          have hm : ∀ o ∈ seen, meets kv o = false := fun o ho => by
            cases hh : meets kv o
            · rfl
            · exact absurd (by rw [hk, Bool.true_and]; exact List.any_eq_true.2 ⟨o, ho, hh⟩) hm
          refine ⟨fun x hx o ho => ?_, List.pairwise_cons.2 ⟨fun y hy => h3 y hy kv (by simp), h4⟩⟩
          rcases List.mem_cons.1 hx with rfl | hx
          · exact hm o ho
          · exact h3 x hx o (List.mem_append_left _ ho)
    · rename_i he; exact absurd h he
theorem Nd.binds_kid {n x : Nd} (h : n.binds = 0) (hx : x ∈ n.kids) : x.binds = 0 := by
 rw [Nd.binds_eq] at h
 exact (bindsFrom_zero h).1 _ (List.mem_map_of_mem hx)
def Apart (ks : List Nd) : Prop := ks.Pairwise fun x y => ∀ v ∈ y.vars, v ∉ x.vars
theorem Nd.fine.kid {n x : Nd} (h : n.fine) (hx : x ∈ n.kids) : x.fine := ⟨Nd.err_kid h.err hx, Nd.binds_kid h.binds hx⟩
theorem Nd.fine.join {n : Nd} (h : n.fine) (hk : n.kind ≠ 1) : (n.kind = 2 ∨ n.kind = 3 ∨ n.kind = 4) ∧ 2 ≤ n.kids.length ∧ n.var.size = 0 := by
 have h0 := Nd.err_own h.err
 rw [ndOwn, if_neg hk] at h0
 split at h0
 ·rename_i hkk
  split at h0
  ·cases h0
  ·rename_i hb
   simp only [joinBad, Bool.or_eq_true, not_or, decide_eq_true_eq, Decidable.not_not] at hb
   exact ⟨hkk, by omega, by omega⟩
 ·cases h0
end Go.Abs.M
namespace Go.Abs.M
open Go Go.Abs Go.Proofs
instance lax : Mode := ⟨False⟩
def bytesOf (x : List UInt8) : ByteArray := ⟨x.toArray⟩
def sortN (names : List ByteArray) : List ByteArray := ((names.map fun s => s.data.toList).mergeSort fun x y => decide (x ≤ y)).map bytesOf
theorem sortN_len (names : List ByteArray) : (sortN names).length = names.length := by
 simp [sortN, List.length_mergeSort]
theorem VRs_strings {w : World} {cx : Cx} : ∀ l : List ByteArray, VRs w cx (l.map encS).flatten (l.map Value.string)
  | [] => .nil
  | s :: l => by
    have := VRs_strings (w := w) (cx := cx) l
    rw [List.map_cons, List.flatten_cons, List.map_cons]
    exact VRs.cons rfl (.c _) this
theorem list_spec {g : Nat} {names : List ByteArray} {σ : Hp} (hg : σ.obj g = some [.tup (entS names)]) (hn : names.Nodup) (hs : ∀ s ∈ names, s.size ≤ maxLen) (hl : names.length ≤ 1048576) :
  ACalls Tryz.prog 76 [.c (.map (some g))] σ (fun v σ' => σ' = σ ∧ v = .sl ((sortN names).map encS)) := by
 refine ⟨Tryz.call76, fun cx w xs hH ha => ?_⟩
 have hx : xs = [.map (some g)] := ha.consts (vs := [.map (some g)])
 subst hx
 obtain ⟨D, hown, hsz, hperm⟩ := ownsMap_of (P := Tryz.prog) (kt := 9) (et := 4) Tryz.underlying9 Tryz.underlying4 hn hs (by unfold maxLen; omega) (hH.obj g _ hg)
 refine (Tryz.set_list g names.length D _ w hown (by rw [hsz]; unfold maxLen; omega) (by rw [hsz]; omega)).mono fun e w' ⟨v, ss, he, hS, hrow, hnil, hb⟩ => ?_
 have hms : ss.mergeSort (fun x y => decide (x ≤ y)) = (names.map fun s => s.data.toList).mergeSort fun x y => decide (x ≤ y) := mergeSort_of_perm (hS.trans hperm)
 have hrl : (ss.mergeSort (fun x y => decide (x ≤ y))).map encStr = (sortN names).map Value.string := by
  rw [hms, sortN, List.map_map]; rfl
 rw [hrl] at hrow
 have hlen : ss.length = (sortN names).length := by rw [sortN_len, hS.length_eq, hperm.length_eq, List.length_map]
 have hext : ∀ cx' : Cx, cx.le cx' → (∀ g', cx'.I g' → cx.I g' ∨ (w.heap.size ≤ g' ∧ g' < w'.heap.size)) → Left cx σ w cx' σ w' := fun cx' hle hI =>
  ⟨hH.new hle hI hb.size (fun g' hg' => hb.block g' hg'), ⟨hb.os, hb.tape, ⟨hb.output, fun h => h.elim⟩, hb.size, fun g' hg' _ => hb.block g' hg', hle, fun g' hi => (hI g' hi).imp id (fun h => .inr h.1), fun g' ho => .inl (own_keep hH hle ho)⟩, fun k x hk => .inl ⟨x, hk⟩, fun g' x hx => .inl ⟨x, hx⟩⟩
 rcases hrow.2 with ⟨hv, h0⟩ | ⟨b, cap, cur, hv, hbase, hbl, hcap, hmx, hcs, htk⟩
 ·have h1 : sortN names = [] := List.eq_nil_of_length_eq_zero (by omega)
  refine ⟨_, v, cx, σ, he, ?_, hext cx (.refl _) (fun _ h => .inl h), rfl, rfl⟩
  rw [h1, hv]; exact .nils
 ·refine ⟨_, v, cx.addI b, σ, he, ?_, hext (cx.addI b) (cx.le_addI b) (fun g' h => h.imp id (fun e => by subst e; exact ⟨hbase, lt_of_block hbl⟩)), rfl, rfl⟩
  have hl2 : ((sortN names).map encS).length = ss.length := by rw [List.length_map, hlen]
  rw [hv, ← hl2]
  refine VR.sl_of_row (sz := 1) (xs := (sortN names).map Value.string) (.inr rfl) (by rw [hl2]; exact hcap) (fun e he => by
   obtain ⟨s, _, rfl⟩ := List.mem_map.1 he; rfl) (VRs_strings _) (fun j x hj => ?_)
  have : (cur.toList.take (ss.length * 1))[j]? = some x := by rw [htk]; exact hj
  rw [List.getElem?_take] at this
  split at this
  ·simp only [World.cell?, hbl, Nat.zero_add, Option.isSome_none, Bool.false_eq_true, if_false]
   rw [← Array.getElem?_toList]; exact this
  ·cases this
end Go.Abs.M
namespace Go.Abs.M
open Go Go.Abs Go.Proofs
variable [Mode]
set_option maxRecDepth 20000
def ptrV (g : Nat) : V := .c (.pointer (some ⟨g, 0, none⟩))
end Go.Abs.M
namespace Go.Abs.M
open Go Go.Abs Go.Proofs
set_option maxRecDepth 20000
def addsF (n : Nd) (fs : List (List ByteArray → List ByteArray)) (acc : List ByteArray) : List ByteArray := fs.foldl (fun a f => f a) (if n.var.size = 0 then acc else addN acc n.var)
def Nd.adds (n : Nd) : List ByteArray → List ByteArray := n.para addsF
theorem Nd.adds_eq (n : Nd) (acc : List ByteArray) : n.adds acc = (n.kids.map Nd.adds).foldl (fun a f => f a) (if n.var.size = 0 then acc else addN acc n.var) := by
 have h : n.adds = addsF n (n.kids.map Nd.adds) := Nd.para_eq _ n
 rw [h]; rfl
def hpN (σ0 : Hp) (gm : Nat) (names : List ByteArray) : Hp := σ0.setObj gm (some [.tup (entS names)])
theorem ok125 : okT Tryz.prog 125 = true := by kernel_rfl
theorem sz125 : szT Tryz.prog 125 = 1 := by kernel_rfl
theorem ag125 : aggT Tryz.prog 125 = false := by kernel_rfl
theorem isMap_c (x : Value) : isMap [.c x] = false := rfl
theorem isMap_fn (f : Fn) (a b : List V) : isMap [.fn f a b] = false := rfl
theorem adds_spec {σ0 : Hp} {g3 g4 gm : Nat} (hQ3 : σ0.obj g3 = some [.c (.map (some gm))]) (hQ4 : σ0.obj g4 = some [.fn (.func 75) [] [ptrV g3, ptrV g4]]) (n3 : ¬ g3 = gm) (n4 : ¬ g4 = gm) : ∀ n : Nd, n.small → ∀ names : List ByteArray, ACalls Tryz.prog 75 [.agg (encNd n), ptrV g3, ptrV g4] (hpN σ0 gm names) (fun v σ' => v = .tup [] ∧ σ' = hpN σ0 gm (n.adds names)) := Nd.ind fun n ih hn names => by
 have hl := hn.len
 have hE := (encNd_eq n).symm
 have hae := n.adds_eq names
 rw [encNd_eq]
 refine ACalls.intro Tryz.call75 Tryz.func75 rfl Tryz.ntmps75 Tryz.results75 (by simp) ?_
 refine AW.sr @ptrV.eq_1 ?_
 refine AW.seq_j (fun s' σ' => σ' = hpN σ0 gm (if n.var.size = 0 then names else addN names n.var) ∧ s'.t 1 = ptrV g3 ∧ s'.t 2 = ptrV g4 ∧ s'.t 3 = .lp 3 0 ∧ s'.l 3 = some [.c (.int .i64 n.kind), .c (.string n.var), .c (.string n.type), .sl (n.tests.map encC), .sl (n.kids.map encNd)]) ?_ ?_
 ·refine AW.sr trivial ?_
  refine AW.cond (b := !decide (n.var.size = 0)) (by simp [ev]) (fun hc => ?_) (fun hc => ?_)
  ·have hc : ¬ n.var.size = 0 := by simpa using hc
   rw [if_neg hc]
   unfold hpN ptrV
   refine AW.reg0 ?_
   iterate 3 refine S.one (J3 hQ3 n3 @isMap_c) ?_
   have q1q := J3 hQ3 n3 @isMap_c
   (refine S.g rfl rfl fun Y Z => ?_; simp only [zn, simprocAttr, -Int.reduceNatCast', -Int.reduceToNat, q1q]; refine ⟨_, _, _, Tryz.underlying124, KeyT.str Tryz.underlying9, rfl, entS_ok _, ?_⟩; (try simp only [tt, ofC, Option.some.injEq, exists_eq_left', zz, simprocAttr, -Int.reduceNatCast', -Int.reduceToNat, hQ3, n3, isMap_c]); refine (congrArg (Y _) (congrArg (fun x => σ0.setObj gm (some [V.tup x])) (entS_upd n.var names))).mpr ?_ <;> (refine Z _ _ ?_; clear Z Y))
   all_goals refine S.nil ?_
   all_goals simp only [ze, simprocAttr, q1q]
   all_goals ((try and_intros) <;> first | rfl | assumption | (rfl))
  ·have hc : n.var.size = 0 := by simpa using hc
   rw [if_pos hc]
   refine AW.skip ?_
   simp only [zs, simprocAttr, ptrV]
   all_goals ((try and_intros) <;> first | rfl | assumption | (rfl))
 rintro s σ ⟨rfl, e1, e2, e3, l3⟩
 generalize hacc0 : (if n.var.size = 0 then names else addN names n.var) = acc0 at *
 all_goals refine AW.sr (J4 e1 e2 e3 l3) ?_
 refine AW.block ?_   -- 0
 refine AW.loop (fun m s σ => ∃ (i : Nat) (acc : List ByteArray), m + i = n.kids.length ∧ σ = hpN σ0 gm acc ∧ n.adds names = ((n.kids.drop i).map Nd.adds).foldl (fun a f => f a) acc ∧ s.t 1 = ptrV g3 ∧ s.t 2 = ptrV g4 ∧ s.t 13 = .sl (n.kids.map encNd) ∧ s.t 14 = .c (.int .i64 (n.kids.length : Nat)) ∧ s.t 15 = .c (.int .i64 (i : Nat))) n.kids.length ?_ ?_
 ·refine ⟨0, acc0, by simp, rfl, by simpa using hae, ?_⟩
  simp only [zs, simprocAttr, e1, e2]
  all_goals ((try and_intros) <;> first | rfl | assumption | (rfl))
 rintro m s σ ⟨i, acc, hm, rfl, hp, e1, e2, e13, e14, e15⟩
 all_goals refine AW.sr (J2 e14 e15) ?_
 refine AW.seq_k fun K5 h5 => ?_
 refine AW.cond (b := decide (i < n.kids.length)) (by simp [ev]) (fun hi => ?_) (fun hi => ?_)
 ·have hi := of_decide_eq_true hi
  obtain ⟨x, hx, hxm, hg⟩ := kid_get hi
  have hw := wadd1 (a := i) (by omega)
  rw [kid_drop hx, List.map_cons, List.foldl_cons] at hp
  refine AW.skip ?_
  simp only [zs, simprocAttr]
  all_goals apply_assumption
  refine AW.seq_k fun K6 h6 => ?_
  refine AW.block ?_   -- 1
  refine AW.sr (J9 e1 e2 e13 e14 e15 hi hg @nd @List.length_map.{0,0}) ?_
  have hF4 : (hpN σ0 gm acc).obj g4 = some [.fn (.func 75) [] [ptrV g3, ptrV g4]] := by simp [hpN, n4]; exact hQ4
  unfold ptrV at e1 e2 hF4
  refine AW.reg0 ?_
  iterate 2 refine S.one (J8 e1 e2 hF4 @isMap_fn @nd @ok125 @sz125 @ag125) ?_
  have q2q := J8 e1 e2 hF4 @isMap_fn @nd @ok125 @sz125 @ag125
  (refine S.g rfl rfl fun Y Z => ?_; simp only [zz, simprocAttr, -Int.reduceNatCast', -Int.reduceToNat, q2q]; (refine ACalls.to (ih x hxm (hn.kid hxm) acc) ?_; rintro _ _ ⟨rfl, rfl⟩) <;> (refine Z _ _ ?_; clear Z Y))
  all_goals (refine S.nil ?_; simp only [ze, simprocAttr, q2q]; apply_assumption)
  all_goals have q3q := J6 e1 e2 e13 e14 e15 hw
  all_goals refine AW.reg0 (S.rn q3q ?_)
  all_goals simp only [ze, simprocAttr, q3q]
  refine ⟨m - 1, by omega, i + 1, x.adds acc, by omega, rfl, hp, ?_⟩
  all_goals ((try and_intros) <;> first | rfl | assumption | (rfl))
 ·have hi := of_decide_eq_false hi
  refine AW.exit ?_
  simp only [zs, simprocAttr]
  rw [List.drop_of_length_le (by omega)] at hp
  have hp : n.adds names = acc := hp
  rw [hp]
  all_goals ((try and_intros) <;> first | rfl | assumption | (rfl))
theorem ltS_iff {a b : ByteArray} : ltS a b = true ↔ a.data.toList < b.data.toList := by
 rw [ltS, bytesLess_eq', decide_eq_true_eq, ByteArray.toList_eq, ByteArray.toList_eq]
def SrtS (l : List ByteArray) : Prop := l.Pairwise fun a b => ltS a b = true
theorem ltS_trans {a b c : ByteArray} (h : ltS a b = true) (k : ltS b c = true) : ltS a c = true := ltS_iff.2 (List.lt_trans (ltS_iff.1 h) (ltS_iff.1 k))
theorem ltS_irr (a : ByteArray) : ltS a a ≠ true := fun h => absurd (ltS_iff.1 h) (List.lt_irrefl _)
theorem ba_ext {a b : ByteArray} (h : a.data.toList = b.data.toList) : a = b := by
 cases a; cases b; exact congrArg _ (Array.toList_inj.1 h)
theorem ltS_tri {a b : ByteArray} (h : ltS a b ≠ true) (hn : a ≠ b) : ltS b a = true := by
 rw [Ne, ltS_iff] at h
 rw [ltS_iff]
 rcases List.le_iff_lt_or_eq.1 (List.not_lt.1 h) with k | k
 ·exact k
 ·exact absurd (ba_ext k.symm) hn
theorem putS_srt {l : List ByteArray} (s : ByteArray) (h : SrtS l) : SrtS (putS l s) := by
  unfold putS
  split
  · exact h
  · rename_i hs
    have hs : s ∉ l := fun h => hs (hasS_iff.2 h)
    have e := List.takeWhile_append_dropWhile (p := (ltS · s)) (l := l)
    have h0 := h
    rw [SrtS, ← e, List.pairwise_append] at h0
    obtain ⟨p1, p2, p3⟩ := h0
    have hlt : ∀ x ∈ l.takeWhile (ltS · s), ltS x s = true := fun x hx => List.all_eq_true.1 (List.all_takeWhile (p := (ltS · s)) (l := l)) x hx
    have hgt : ∀ x ∈ l.dropWhile (ltS · s), ltS s x = true := by
      intro x hx
      cases hd : l.dropWhile (ltS · s) with
      | nil => rw [hd] at hx; cases hx
      | cons y r =>
        have hy : ltS y s ≠ true := by
          have := List.head_dropWhile_not (p := (ltS · s)) (l := l) (by rw [hd]; exact List.cons_ne_nil _ _)
          simp only [hd, List.head_cons] at this
          rw [this]; exact Bool.false_ne_true
        have hyl : y ∈ l := by rw [← e, hd]; exact List.mem_append_right _ List.mem_cons_self
        have hys : ltS s y = true := ltS_tri hy fun e => hs (e ▸ hyl)
        rw [hd] at hx p2
        rcases List.mem_cons.1 hx with rfl | hx
        · exact hys
        · exact ltS_trans hys ((List.pairwise_cons.1 p2).1 x hx)
    refine List.pairwise_append.2 ⟨p1, List.pairwise_cons.2 ⟨hgt, p2⟩, fun a ha b hb => ?_⟩
    rcases List.mem_cons.1 hb with rfl | hb
    · exact hlt a ha
    · exact p3 a ha b hb
theorem putAll_srt (kv : List ByteArray) : ∀ acc : List ByteArray, SrtS acc → SrtS (putAll acc kv) := by
 induction kv with
 | nil => intro acc h; exact h
 | cons s kv ih => intro acc h; exact ih _ (putS_srt s h)
theorem foldAll_srt (l : List (List ByteArray)) : ∀ acc : List ByteArray, SrtS acc → SrtS (l.foldl putAll acc) := by
 induction l with
 | nil => intro acc h; exact h
 | cons s l ih => intro acc h; exact ih _ (putAll_srt s acc h)
theorem Nd.vars_srt (n : Nd) : SrtS n.vars := by
 rw [Nd.vars_eq, varsOf]
 refine foldAll_srt _ _ ?_
 split
 ·exact .nil
 ·exact putS_srt _ .nil
theorem SrtS.nodup {l : List ByteArray} (h : SrtS l) : l.Nodup := List.Pairwise.imp (fun {a b} hab e => by subst e; exact ltS_irr _ hab) h
theorem sortN_eq {a b : List ByteArray} (ha : a.Nodup) (hb : SrtS b) (h : ∀ v, v ∈ a ↔ v ∈ b) : sortN a = b := by
 have hp : a.Perm b := (List.perm_ext_iff_of_nodup ha hb.nodup).2 fun v => h v
 have hs : (b.map fun s => s.data.toList).mergeSort (fun x y => decide (x ≤ y)) = b.map fun s => s.data.toList := by
  refine List.mergeSort_of_pairwise ?_
  rw [List.pairwise_map]
  exact List.Pairwise.imp (fun {a b} hab => by rw [decide_eq_true_eq]; exact List.le_of_lt (ltS_iff.1 hab)) hb
 rw [sortN, mergeSort_of_perm (hp.map _)]
 show (List.map bytesOf ((b.map fun s => s.data.toList).mergeSort fun x y => decide (x ≤ y))) = b
 rw [hs, List.map_map]
 conv => rhs; rw [← List.map_id b]
 exact List.map_congr_left fun x _ => ba_ext (by simp [bytesOf])
theorem Hp.setObj_id {σ : Hp} {g : Nat} {x : Option (List V)} (h : σ.obj g = x) : σ.setObj g x = σ := by
 subst h
 cases σ
 simp only [Hp.setObj, Hp.mk.injEq, and_true]
 funext j
 by_cases e : j = g
 ·simp [e]
 ·simp [e]
theorem isMap_none : isMap [.c (.map none)] = false := rfl
theorem foldAdds_nodup {l : List (List ByteArray → List ByteArray)} : (∀ f ∈ l, ∀ a : List ByteArray, a.Nodup → (f a).Nodup) → ∀ a : List ByteArray, a.Nodup → (l.foldl (fun a f => f a) a).Nodup := by
 induction l with
 | nil => intro _ a h; exact h
 | cons f l ih => intro hf a h; exact ih (fun g hg => hf g (List.mem_cons_of_mem _ hg)) _ (hf f List.mem_cons_self a h)
theorem Nd.adds_nodup : ∀ (n : Nd) (a : List ByteArray), a.Nodup → (n.adds a).Nodup := Nd.ind fun n ih a h => by
 rw [n.adds_eq]
 refine foldAdds_nodup (fun f hf a ha => ?_) _ ?_
 ·obtain ⟨x, hx, rfl⟩ := List.mem_map.1 hf; exact ih x hx a ha
 ·split
  ·exact h
  ·exact addN_nodup h
theorem foldAdds_mem (v : ByteArray) {l : List Nd} : (∀ x ∈ l, ∀ a : List ByteArray, v ∈ x.adds a ↔ v ∈ a ∨ v ∈ x.vars) → ∀ a : List ByteArray, v ∈ (l.map Nd.adds).foldl (fun a f => f a) a ↔ v ∈ a ∨ ∃ x ∈ l, v ∈ x.vars := by
  induction l with
  | nil => intro _ a; simp
  | cons y l ih =>
    intro hf a
    rw [List.map_cons, List.foldl_cons, ih (fun g hg => hf g (List.mem_cons_of_mem _ hg)), hf y List.mem_cons_self]
    simp [or_assoc]
theorem Nd.adds_mem (v : ByteArray) : ∀ (n : Nd) (a : List ByteArray), v ∈ n.adds a ↔ v ∈ a ∨ v ∈ n.vars := Nd.ind fun n ih a => by
 rw [n.adds_eq, foldAdds_mem v (fun x hx => ih x hx), Nd.vars_mem]
 split
 ·rename_i h; simp [h]
 ·rename_i h; simp [h, addN_mem, or_left_comm, or_comm, or_assoc]
theorem foldAdds_len {l : List Nd} : (∀ x ∈ l, ∀ a : List ByteArray, (x.adds a).length ≤ a.length + x.size) → ∀ a : List ByteArray, ((l.map Nd.adds).foldl (fun a f => f a) a).length ≤ a.length + (l.map Nd.size).sum := by
  induction l with
  | nil => intro _ a; exact Nat.le_refl _
  | cons y l ih =>
    intro hf a
    have h1 := ih (fun g hg => hf g (List.mem_cons_of_mem _ hg)) (y.adds a)
    have h2 := hf y List.mem_cons_self a
    simp only [List.map_cons, List.foldl_cons, List.sum_cons]; omega
theorem addN_len (a : List ByteArray) (s : ByteArray) : (addN a s).length ≤ a.length + 1 := by
 unfold addN; split <;> simp
theorem Nd.adds_len : ∀ (n : Nd) (a : List ByteArray), (n.adds a).length ≤ a.length + n.size := Nd.ind fun n ih a => by
 rw [n.adds_eq, Nd.size_eq]
 have h1 := foldAdds_len (fun x hx => ih x hx) (if n.var.size = 0 then a else addN a n.var)
 have h2 : (if n.var.size = 0 then a else addN a n.var).length ≤ a.length + 1 := by
  split
  ·omega
  ·exact addN_len a n.var
 omega
theorem sortN_vars (n : Nd) : sortN (n.adds []) = n.vars :=
 sortN_eq (n.adds_nodup [] .nil) n.vars_srt fun v => by rw [n.adds_mem]; simp
theorem Nd.var_sz {n : Nd} (h : n.err = 0) : n.var.size ≤ 32 := by
 have h0 := Nd.err_own h
 unfold ndOwn at h0
 split at h0
 ·split at h0
  ·cases h0
  ·rename_i hb
   simp only [leafBad, Bool.or_eq_true, not_or, Bool.not_eq_true', Bool.not_eq_false, isName, Bool.and_eq_true, decide_eq_true_eq] at hb
   exact hb.1.2.2
 ·split at h0
  ·split at h0
   ·cases h0
   ·rename_i hb
    simp only [joinBad, Bool.or_eq_true, not_or, decide_eq_true_eq, Decidable.not_not] at hb
    omega
  ·cases h0
theorem Nd.vars_sz : ∀ n : Nd, n.err = 0 → ∀ v ∈ n.vars, v.size ≤ 32 := Nd.ind fun n ih h v hv => by
 rcases (n.vars_mem v).1 hv with ⟨_, rfl⟩ | ⟨x, hx, hv⟩
 ·exact n.var_sz h
 ·exact ih x hx (Nd.err_kid h hx) v hv
theorem isMap_nf : isMap [.c .nilFunc] = false := rfl
theorem zt125 : zeroT Tryz.prog 125 = some .nilFunc := by kernel_rfl
def hpV (gm g3 g4 : Nat) : Hp := ((Hp.empty.setObj gm (some [.tup []])).setObj g3 (some [.c (.map (some gm))])).setObj g4 (some [.fn (.func 75) [] [ptrV g3, ptrV g4]])
theorem hpV_N {gm g3 g4 : Nat} (h3 : ¬ gm = g3) (h4 : ¬ gm = g4) : hpN (hpV gm g3 g4) gm [] = hpV gm g3 g4 := Hp.setObj_id (by simp [hpV, h3, h4, entS])
theorem Vars_spec {n : Nd} (hn : n.small) (hk : n.err = 0) : PCalls Tryz.prog 37 [.agg (encNd n)] (fun v => v = .sl (n.vars.map encS)) := by
 have hsz : ∀ s ∈ n.adds [], s.size ≤ maxLen := fun s hs => by
  rw [n.adds_mem] at hs
  have := n.vars_sz hk s (by simpa using hs)
  unfold maxLen; omega
 have hlen : (n.adds []).length ≤ 1048576 := by
  have := n.adds_len []
  unfold Nd.small at hn
  simp only [List.length_nil] at this; omega
 have hE := (encNd_eq n).symm
 rw [encNd_eq]
 refine ACalls.bare (R := fun v _ => v = .sl (n.vars.map encS)) (ACalls.intro Tryz.call37 Tryz.func37 rfl Tryz.ntmps37 Tryz.results37 (by simp) ?_) fun _ _ h => h
 refine AW.sr trivial ?_
 refine AW.seq_k fun K2 h2 => ?_
 refine AW.region (T := { hp := fun d => d == 3 }) (fun _ _ h => by cases h) rfl ?_
 all_goals (refine S.g rfl rfl fun Y Z => ?_; simp only [zz, simprocAttr, -Int.reduceNatCast', -Int.reduceToNat, isMap_none, if_pos, if_neg]; intro gm ngm <;> (refine Z _ _ ?_; clear Z Y))
 all_goals have q1q := J3 @isMap_none @if_pos.{0} @if_neg.{0}
 all_goals (refine S.g rfl rfl fun Y Z => ?_; simp only [zz, simprocAttr, -Int.reduceNatCast', -Int.reduceToNat, tt, q1q]; intro g3 ng3 <;> (refine Z _ _ ?_; clear Z Y))
 all_goals refine S.one q1q ?_
 all_goals (refine S.nil ?_; simp only [ze, simprocAttr, q1q]; apply_assumption)
 refine AW.seq_k fun K3 h3 => ?_
 have hn3 : ¬ gm = g3 := fun e => by subst e; simp at ng3
 all_goals refine AW.region (T := { hp := fun d => d == 4 }) (fun _ _ h => by cases h) rfl ?_
 all_goals (refine S.g rfl rfl fun Y Z => ?_; simp only [zz, simprocAttr, -Int.reduceNatCast', -Int.reduceToNat, zt125]; intro g4 ng4 <;> (refine Z _ _ ?_; clear Z Y))
 all_goals (refine S.nil ?_; simp only [ze, simprocAttr]; apply_assumption)
 have hn4 : ¬ gm = g4 := fun e => by subst e; simp at ng4; split at ng4 <;> cases ng4
 have hn34 : ¬ g3 = g4 := fun e => by simp [e] at ng4
 all_goals refine AW.sr (J5 @ok125 @sz125 @ag125 @isMap_fn @isMap_nf) ?_
 refine AW.seq_k fun K5 h5 => ?_
 rw [show (((Hp.empty.setObj gm (some [V.tup []])).setObj g3 (some [.c (.map (some gm))])).setObj g4 (some [.fn (.func 75) [] [.c (.pointer (some ⟨g3, 0, none⟩)), .c (.pointer (some ⟨g4, 0, none⟩))]])) = hpN (hpV gm g3 g4) gm [] from (hpV_N hn3 hn4).symm]
 have hf4 : (hpN (hpV gm g3 g4) gm []).obj g4 = some [.fn (.func 75) [] [.c (.pointer (some ⟨g3, 0, none⟩)), .c (.pointer (some ⟨g4, 0, none⟩))]] := by rw [hpV_N hn3 hn4]; simp [hpV, ptrV]
 all_goals refine AW.reg0 ?_
 all_goals iterate 2 refine S.one (J7 hf4 @isMap_fn @nd hE @ok125 @sz125 @ag125) ?_
 all_goals have q2q := J7 hf4 @isMap_fn @nd hE @ok125 @sz125 @ag125
 all_goals (refine S.g rfl rfl fun Y Z => ?_; simp only [zz, simprocAttr, -Int.reduceNatCast', -Int.reduceToNat, q2q]; (refine ACalls.to (adds_spec (σ0 := hpV gm g3 g4) (g3 := g3) (g4 := g4) (gm := gm) (by simp [hpV, hn34]) (by simp [hpV]) (Ne.symm hn3) (Ne.symm hn4) n hn []) ?_; rintro _ _ ⟨rfl, rfl⟩) <;> (refine Z _ _ ?_; clear Z Y))
 all_goals (refine S.nil ?_; simp only [ze, simprocAttr, q2q]; apply_assumption)
 have hf3 : (hpN (hpV gm g3 g4) gm (n.adds [])).obj g3 = some [.c (.map (some gm))] := by simp [hpN, hpV, hn3, hn34, Ne.symm hn3]
 refine AW.seq_k fun K6 h6 => ?_
 all_goals refine AW.reg0 ?_
 all_goals refine S.one (J2 hf3 @isMap_c) ?_
 all_goals have q3q := J2 hf3 @isMap_c
 all_goals (refine S.g rfl rfl fun Y Z => ?_; simp only [zz, simprocAttr, -Int.reduceNatCast', -Int.reduceToNat, q3q]; (refine ACalls.to (list_spec (g := gm) (names := n.adds []) (by simp [hpN]) (n.adds_nodup [] .nil) hsz hlen) ?_; rintro _ _ ⟨rfl, rfl⟩) <;> (refine Z _ _ ?_; clear Z Y))
 all_goals refine S.one q3q ?_
 all_goals (refine S.nil ?_; simp only [ze, simprocAttr, q3q]; apply_assumption)
 refine AW.ret ?_
 all_goals simp only [zs, simprocAttr]
 rw [sortN_vars]
 all_goals ((try and_intros) <;> first | rfl | assumption | (rfl))
theorem ent_look (K : St → Hp → Prop) (s : St) (d : Nat) (σ : Hp) {names : List ByteArray} {nm : ByteArray} (h : K (s.put d (.c (.bool (names.any fun t => nm.toList == t.toList)))) σ) :
  match entV (entS names) (.string nm) 0 with | some (_, v) => K (s.put d v) σ | none => K (s.put d (.c (.bool false))) σ := by
 rcases entS_at nm names 0 with ⟨h1, h2⟩ | ⟨h1, j, h2, _⟩
 ·rw [h2]; rw [h1] at h; exact h
 ·rw [h2]; rw [h1] at h; exact h
theorem any_str {l : List ByteArray} {s : ByteArray} : (l.any fun t => s.toList == t.toList) = true ↔ s ∈ l := by
 have : (l.any fun t => s.toList == t.toList) = hasS l s := by
  unfold hasS eqS; congr 1; funext t; rw [Bool.eq_iff_iff, beq_iff_eq, beq_iff_eq]; exact ⟨Eq.symm, Eq.symm⟩
 rw [this, hasS_iff]
def seenN (n : Nd) (i : Nat) (names : List ByteArray) : Prop := ∀ v, v ∈ names ↔ twin n = true ∧ ∃ x ∈ n.kids.take i, v ∈ x.vars
def addsN (names : List ByteArray) (l : List ByteArray) : List ByteArray := l.foldl addN names
theorem addsN_mem {l : List ByteArray} {v : ByteArray} : ∀ {a : List ByteArray}, v ∈ addsN a l ↔ v ∈ a ∨ v ∈ l := by
  induction l with
  | nil => intro a; simp [addsN]
  | cons s l ih =>
    intro a
    have := @ih (addN a s)
    simp only [addsN, List.foldl_cons] at this ⊢
    rw [this, addN_mem, List.mem_cons, or_assoc, or_left_comm]
theorem addsN_step {l : List ByteArray} {j : Nat} {s : ByteArray} (h : l[j]? = some s) (a : List ByteArray) : addN (addsN a (l.take j)) s = addsN a (l.take (j + 1)) := by
 rw [List.take_add_one, h, addsN, addsN, List.foldl_append]; rfl
theorem seen_any {n x : Nd} {i : Nat} {names : List ByteArray} (h : seenN n i names) (ht : twin n = true) : (((n.kids.take i).map Nd.vars).any (meets x.vars) = true) ↔ ∃ v ∈ x.vars, v ∈ names := by
 simp only [List.any_eq_true, List.mem_map, meets, hasS_iff]
 constructor
 ·rintro ⟨_, ⟨y, hy, rfl⟩, v, h1, h2⟩
  exact ⟨v, h2, (h v).2 ⟨ht, y, hy, h1⟩⟩
 ·rintro ⟨v, h1, h2⟩
  obtain ⟨_, y, hy, h3⟩ := (h v).1 h2
  exact ⟨_, ⟨y, hy, rfl⟩, v, h3, h1⟩
theorem seen_step {n x : Nd} {i : Nat} {names : List ByteArray} (h : seenN n i names) (ht : twin n = true) (hx : n.kids[i]? = some x) : seenN n (i + 1) (addsN names x.vars) := fun v => by
 rw [addsN_mem, h v, List.take_add_one, hx]
 simp only [List.mem_append, Option.toList_some, List.mem_singleton, ht, true_and]
 constructor
 ·rintro (⟨y, hy, k⟩ | k)
  ·exact ⟨y, .inl hy, k⟩
  ·exact ⟨x, .inr rfl, k⟩
 ·rintro ⟨y, hy | rfl, k⟩
  ·exact .inl ⟨y, hy, k⟩
  ·exact .inr k
theorem seen_skip {n : Nd} {i : Nat} {names : List ByteArray} (h : seenN n i names) (ht : twin n = false) : seenN n (i + 1) names := fun v => by
 rw [h v, ht]; simp
theorem kid_dropS {l : List ByteArray} {i : Nat} {x : ByteArray} (hx : l[i]? = some x) : l.drop i = x :: l.drop (i + 1) := by
 obtain ⟨hi, h⟩ := List.getElem?_eq_some_iff.1 hx
 rw [List.drop_eq_getElem_cons hi, h]
theorem stS (x : ByteArray) : List.map wk1 (encS x) = encS x := rfl
theorem seen_take {n x : Nd} {i : Nat} (hx : n.kids[i]? = some x) : (n.kids.take i).map Nd.vars ++ [x.vars] = (n.kids.take (i + 1)).map Nd.vars := by
 rw [List.take_add_one, hx, List.map_append]; rfl
theorem Binds_spec : ∀ n : Nd, n.small → n.err = 0 → PCalls Tryz.prog 70 [.agg (encNd n)] (fun v => v = .c (.int .i64 n.binds)) := Nd.ind fun n ih hn hk => by
 have hl := hn.len
 have hb0 := n.binds_eq
 rw [encNd_eq]
 refine ACalls.bare (R := fun v _ => v = .c (.int .i64 n.binds)) (ACalls.intro Tryz.call70 Tryz.func70 rfl Tryz.ntmps70 Tryz.results70 (by simp) ?_) fun _ _ h => h
 refine AW.sr trivial ?_
 refine AW.seq_k fun K2 h2 => ?_
 refine AW.reg0 ?_
 (refine S.g rfl rfl fun Y Z => ?_; simp only [zz, simprocAttr, -Int.reduceNatCast', -Int.reduceToNat]; intro gm ngm <;> (refine Z _ _ ?_; clear Z Y))
 all_goals refine S.one trivial ?_
 all_goals (refine S.nil ?_; simp only [ze, simprocAttr]; apply_assumption)
 refine AW.seq_k fun K3 h3 => ?_
 all_goals refine AW.sr trivial ?_
 refine AW.block ?_   -- 0
 refine AW.loop (fun m s σ => ∃ (i : Nat) (names : List ByteArray), m + i = n.kids.length ∧ σ = hpN Hp.empty gm names ∧ seenN n i names ∧ n.binds = bindsFrom (twin n) ((n.kids.take i).map Nd.vars) ((n.kids.drop i).map bindOf) ∧ s.t 1 = .lp 1 0 ∧ s.l 1 = some [.c (.int .i64 n.kind), .c (.string n.var), .c (.string n.type), .sl (n.tests.map encC), .sl (n.kids.map encNd)] ∧ s.t 3 = .c (.map (some gm)) ∧ s.t 11 = .sl (n.kids.map encNd) ∧ s.t 12 = .c (.int .i64 (n.kids.length : Nat)) ∧ s.t 13 = .c (.int .i64 (i : Nat))) n.kids.length ?_ ?_
 ·refine ⟨0, [], by simp, rfl, (fun v => by simp), by simpa using hb0, ?_⟩
  simp only [zs, simprocAttr]
  all_goals ((try and_intros) <;> first | rfl | assumption | (rfl))
 rintro m s σ ⟨i, names, hm, rfl, hse, hp, e1, l1, e3, e11, e12, e13⟩
 all_goals refine AW.sr (J2 e12 e13) ?_
 refine AW.seq_k fun K6 h6 => ?_
 refine AW.cond (b := decide (i < n.kids.length)) (by simp [ev]) (fun hi => ?_) (fun hi => ?_)
 ·have hi := of_decide_eq_true hi
  obtain ⟨x, hx, hxm, hg⟩ := kid_get hi
  have hw := wadd1 (a := i) (by omega)
  have hxs := x.vars_size
  have hxn : x.size ≤ 1048576 := hn.kid hxm
  rw [kid_drop hx, List.map_cons, bindOf, bindsFrom] at hp
  refine AW.skip ?_
  simp only [zs, simprocAttr]
  all_goals apply_assumption
  refine AW.seq_k fun K7 h7 => ?_
  refine AW.block ?_   -- 1
  refine AW.sr (J6 e11 e13 hi hg @nd @List.length_map.{0,0}) ?_
  refine AW.seq_k fun K9 h9 => ?_
  refine AW.seq_k fun K10 h10 => ?_
  refine AW.reg0 ?_
  refine S.one @nd ?_
  (refine S.g rfl rfl fun Y Z => ?_; simp only [zz, simprocAttr, -Int.reduceNatCast', -Int.reduceToNat, nd]; refine PCalls.eqto (ih x hxm (hn.kid hxm) (Nd.err_kid hk hxm)) ?_ <;> (refine Z _ _ ?_; clear Z Y))
  all_goals refine S.one @nd ?_
  all_goals (refine S.nil ?_; simp only [ze, simprocAttr, nd]; apply_assumption)
  all_goals refine AW.sr trivial ?_
  refine AW.cond (b := x.binds != 0) (by simp [ev]) (fun hb => ?_) (fun hb => ?_)
  ·have hb : ¬ x.binds = 0 := by simpa using hb
   rw [if_neg hb] at hp
   refine AW.sr trivial ?_
   refine AW.ret ?_
   simp only [zs, simprocAttr]
   all_goals ((try and_intros) <;> first | rfl | assumption | ((rw [hp])))
  have hb : x.binds = 0 := by simpa using hb
  rw [if_pos hb] at hp
  refine AW.skip ?_
  all_goals simp only [zs, simprocAttr]
  all_goals apply_assumption
  refine AW.seq_k fun K13 h13 => ?_
  refine AW.seq_j (fun s' σ' => σ' = hpN Hp.empty gm names ∧ s'.t 29 = .c (.bool (!twin n)) ∧ s'.t 1 = .lp 1 0 ∧ s'.l 1 = some [.c (.int .i64 n.kind), .c (.string n.var), .c (.string n.type), .sl (n.tests.map encC), .sl (n.kids.map encNd)] ∧ s'.t 3 = .c (.map (some gm)) ∧ s'.t 11 = .sl (n.kids.map encNd) ∧ s'.t 12 = .c (.int .i64 (n.kids.length : Nat)) ∧ s'.t 13 = .c (.int .i64 (i : Nat)) ∧ s'.t 5 = .lp 5 0 ∧ s'.l 5 = some (encNd x)) ?_ ?_
  ·skip
   refine AW.reg0 ?_
   iterate 2 refine S.one (J2 e1 l1) ?_
   (refine S.sp (J2 e1 l1) fun b a24 => ?_; cases b <;> (try exact nope a24))
   all_goals iterate 5 refine S.one (J2 e1 l1) ?_
   all_goals refine S.nil ?_
   all_goals simp only [ze, simprocAttr, e1, l1]
   all_goals (first | (simp_all [twin, kill]; done) | (simp_all [twin, kill, bne]; rfl))
  rintro s σ ⟨rfl, e29, e1, l1, e3, e11, e12, e13, e5, l5⟩
  refine AW.cond (b := !twin n) e29 (fun ht => ?_) (fun ht => ?_)
  ·have ht : twin n = false := by simpa using ht
   refine AW.exit ?_
   simp only [zs, simprocAttr]
   all_goals apply_assumption
   have q1q := J7 e1 l1 e3 e11 e12 e13 hw
   refine AW.reg0 (S.rn q1q ?_)
   simp only [ze, simprocAttr, q1q]
   refine ⟨m - 1, by omega, i + 1, names, by omega, rfl, seen_skip hse ht, ?_, ?_⟩
   ·rw [hp, ht, Bool.false_and, if_neg Bool.false_ne_true, seen_take hx]
   ·all_goals ((try and_intros) <;> first | rfl | assumption | (rfl))
  have ht : twin n = true := by simpa using ht
  refine AW.skip ?_
  all_goals simp only [zs, simprocAttr]
  all_goals apply_assumption
  refine AW.seq_k fun K14 h14 => ?_
  all_goals refine AW.reg0 ?_
  all_goals refine S.one (J3 e5 l5 @nd) ?_
  all_goals (refine S.g rfl rfl fun Y Z => ?_; simp only [zz, simprocAttr, -Int.reduceNatCast', -Int.reduceToNat, e5, l5, nd]; refine PCalls.eqto (Vars_spec (hn.kid hxm) (Nd.err_kid hk hxm)) ?_ <;> (refine Z _ _ ?_; clear Z Y))
  all_goals iterate 2 refine S.one (J3 e5 l5 @nd) ?_
  all_goals (refine S.nil ?_; simp only [ze, simprocAttr, e5, l5, nd]; apply_assumption)
  have hnd := x.vars_srt.nodup
  refine AW.block ?_   -- 2
  refine AW.loop (fun m2 s σ => ∃ (j : Nat), m2 + j = x.vars.length ∧ σ = hpN Hp.empty gm (addsN names (x.vars.take j)) ∧ (∀ v ∈ x.vars.take j, v ∉ names) ∧ s.t 1 = .lp 1 0 ∧ s.l 1 = some [.c (.int .i64 n.kind), .c (.string n.var), .c (.string n.type), .sl (n.tests.map encC), .sl (n.kids.map encNd)] ∧ s.t 3 = .c (.map (some gm)) ∧ s.t 11 = .sl (n.kids.map encNd) ∧ s.t 12 = .c (.int .i64 (n.kids.length : Nat)) ∧ s.t 13 = .c (.int .i64 (i : Nat)) ∧ s.t 31 = .sl (x.vars.map encS) ∧ s.t 32 = .c (.int .i64 (x.vars.length : Nat)) ∧ s.t 33 = .c (.int .i64 (j : Nat))) x.vars.length ?_ ?_
  ·refine ⟨0, by simp, rfl, (fun v h => by simp at h), ?_⟩
   simp only [zs, simprocAttr, e1, l1, e3, e11, e12, e13]
   all_goals ((try and_intros) <;> first | rfl | assumption | (rfl))
  rintro m2 s σ ⟨j, hm2, rfl, hno, e1, l1, e3, e11, e12, e13, e31, e32, e33⟩
  all_goals refine AW.sr (J2 e32 e33) ?_
  refine AW.seq_k fun K16 h16 => ?_
  refine AW.cond (b := decide (j < x.vars.length)) (by simp [ev]) (fun hj => ?_) (fun hj => ?_)
  ·have hj := of_decide_eq_true hj
   obtain ⟨v, hv, hvg, _⟩ := str_get hj
   have hvm := List.mem_of_getElem? hv
   have hw2 := wadd1 (a := j) (by omega)
   refine AW.skip ?_
   simp only [zs, simprocAttr]
   all_goals apply_assumption
   refine AW.seq_k fun K17 h17 => ?_
   refine AW.block ?_   -- 3
   refine AW.sr (J5 e31 e33 hj hvg @List.length_map.{0,0}) ?_
   have hjn : v ∉ x.vars.take j := fun h => by
    rw [← List.take_append_drop j x.vars, kid_dropS hv] at hnd
    exact (List.nodup_append.1 hnd).2.2 v h v List.mem_cons_self rfl
   have hin : v ∈ addsN names (x.vars.take j) ↔ v ∈ names := by rw [addsN_mem]; exact ⟨fun h => h.resolve_right hjn, .inl⟩
   refine AW.seq_k fun K19 h19 => ?_
   refine AW.seq_k fun K20 h20 => ?_
   unfold hpN
   refine AW.reg0 ?_
   iterate 2 refine S.one e3 ?_
   (refine S.g rfl rfl fun Y Z => ?_; simp only [zn, simprocAttr, -Int.reduceNatCast', -Int.reduceToNat, e3]; (refine ⟨_, _, _, Tryz.underlying124, KeyT.str Tryz.underlying9, rfl, entS_ok _, ?_⟩); (try simp only [tt, ofC, Option.some.injEq, exists_eq_left', zz, simprocAttr, -Int.reduceNatCast', -Int.reduceToNat, e3]); refine ent_look Y _ _ _ ?_ <;> (refine Z _ _ ?_; clear Z Y))
   all_goals (refine S.nil ?_; simp only [ze, simprocAttr, e3]; apply_assumption)
   refine AW.cond (b := (addsN names (x.vars.take j)).any fun t => v.toList == t.toList) (by simp [ev]) (fun hf => ?_) (fun hf => ?_)
   ·have hf := hin.1 (any_str.1 hf)
    refine AW.sr trivial ?_
    refine AW.ret ?_
    simp only [zs, simprocAttr]
    rw [if_pos (by rw [(seen_any hse ht).2 ⟨v, hvm, hf⟩, ht]; rfl)] at hp
    all_goals ((try and_intros) <;> first | rfl | assumption | ((rw [hp])))
   have hf : v ∉ names := fun h => by rw [any_str.2 (hin.2 h)] at hf; cases hf
   refine AW.skip ?_
   all_goals simp only [zs, simprocAttr]
   all_goals apply_assumption
   all_goals refine AW.reg0 ?_
   all_goals iterate 2 refine S.one (J2 e3 @isMap_c) ?_
   all_goals have q2q := J2 e3 @isMap_c
   all_goals (refine S.g rfl rfl fun Y Z => ?_; simp only [zn, simprocAttr, -Int.reduceNatCast', -Int.reduceToNat, q2q]; (refine ⟨_, _, _, Tryz.underlying124, KeyT.str Tryz.underlying9, rfl, entS_ok _, ?_⟩); (try simp only [tt, ofC, Option.some.injEq, exists_eq_left', zz, simprocAttr, -Int.reduceNatCast', -Int.reduceToNat, e3, isMap_c]); refine (congrArg (Y _) (congrArg (fun x => Hp.empty.setObj gm (some [V.tup x])) (entS_upd v (addsN names (x.vars.take j))))).mpr ?_ <;> (refine Z _ _ ?_; clear Z Y))
   all_goals (refine S.nil ?_; simp only [ze, simprocAttr, q2q]; apply_assumption)
   rw [addsN_step hv]
   all_goals have q3q := J10 e1 l1 e3 e11 e12 e13 e31 e32 e33 hw2
   all_goals refine AW.reg0 (S.rn q3q ?_)
   all_goals simp only [ze, simprocAttr, q3q]
   refine ⟨m2 - 1, by omega, j + 1, by omega, rfl, (fun w hw => ?_), ?_⟩
   ·rw [List.take_add_one, hv] at hw
    rcases List.mem_append.1 hw with h | h
    ·exact hno w h
    ·simp at h; rw [h]; exact hf
   ·all_goals ((try and_intros) <;> first | rfl | assumption | (rfl))
  ·have hj := of_decide_eq_false hj
   refine AW.exit ?_
   simp only [zs, simprocAttr]
   all_goals apply_assumption
   rw [List.take_of_length_le (by omega)] at hno ⊢
   have q4q := J7 e1 l1 e3 e11 e12 e13 hw
   refine AW.reg0 (S.rn q4q ?_)
   simp only [ze, simprocAttr, q4q]
   refine ⟨m - 1, by omega, i + 1, addsN names x.vars, by omega, rfl, seen_step hse ht hx, ?_, ?_⟩
   ·rw [hp, if_neg, seen_take hx]
    rw [Bool.and_eq_true]
    rintro ⟨_, h⟩
    obtain ⟨v, h1, h2⟩ := (seen_any hse ht).1 h
    exact hno v h1 h2
   ·all_goals ((try and_intros) <;> first | rfl | assumption | (rfl))
 ·have hi := of_decide_eq_false hi
  refine AW.exit ?_
  simp only [zs, simprocAttr]
  all_goals apply_assumption
  refine AW.sr trivial ?_
  refine AW.ret ?_
  simp only [zs, simprocAttr]
  rw [List.drop_of_length_le (by omega)] at hp
  all_goals ((try and_intros) <;> first | rfl | assumption | ((rw [hp]; rfl)))
theorem shape_err {n : Nd} (h : n.shape = 0) : n.err = 0 := by
 unfold Nd.shape at h
 split at h
 ·cases h
 ·split at h
  ·assumption
  ·exact h
def fnV (f : FuncId) : V := .fn (.func f) [] []
theorem ok117 : okT Tryz.prog 117 = true := by kernel_rfl
theorem sz117 : szT Tryz.prog 117 = 1 := by kernel_rfl
theorem ag117 : aggT Tryz.prog 117 = false := by kernel_rfl
theorem zt117 : zeroT Tryz.prog 117 = some .nilFunc := by kernel_rfl
theorem by117 : Program.bytesOf Tryz.prog 117 = 8 := by kernel_rfl
theorem Pattern_spec (p : Pat) (hp : okPat p) : PCalls Tryz.prog 33 [.agg (encPat p)] (fun v => v = .c (.int .i64 (patErr p))) := by
 have hE := (encNd_eq p.node).symm
 have hsz := p.node.vars_size
 have hsm : p.node.size ≤ 1048576 := hp.small
 refine PCalls.intro Tryz.call33 Tryz.func33 rfl Tryz.ntmps33 Tryz.results33 (by simp) ?_
 refine AW.sr @encPat.eq_1 ?_
 refine AW.seq_k fun K2 h2 => ?_
 refine AW.seq_j (fun s' σ' => σ' = Hp.empty ∧ s'.t 1 = .lp 1 0 ∧ s'.l 1 = some (encPat p) ∧ s'.t 19 = .c (.bool (patOwn p))) ?_ ?_
 ·skip
  refine AW.reg0 ?_
  iterate 2 refine S.one trivial ?_
  (refine S.g rfl rfl fun Y Z => ?_; simp only [zz, simprocAttr, -Int.reduceNatCast', -Int.reduceToNat]; refine PCalls.eqto (name_spec _ hp.name) ?_; refine S.bool fun b a8 => ?_; cases b <;> (try exact nope a8) <;> (refine Z _ _ ?_; clear Z Y))
  all_goals iterate 4 refine S.one trivial ?_
  all_goals (first | (refine S.sp trivial fun b a13 => ?_; cases b <;> (try exact nope a13)) | ((first | refine S.x rfl rfl rfl rfl fun Y Z => ?_ | refine S.u rfl rfl rfl rfl fun Y Z => ?_); simp only [ze, simprocAttr, -Int.reduceNatCast', -Int.reduceToNat]; refine Z _ _ ?_; clear Z Y))
  all_goals iterate 6 refine S.one trivial ?_
  all_goals refine S.nil ?_
  all_goals simp only [ze, simprocAttr]
  all_goals simp_all [patOwn, encPat]
  all_goals omega
 rintro s σ ⟨rfl, e1, l1, e19⟩
 refine AW.cond (b := patOwn p) e19 (fun hb => ?_) (fun hb => ?_)
 ·refine AW.sr trivial ?_
  refine AW.ret ?_
  simp only [zs, simprocAttr]
  all_goals ((try and_intros) <;> first | rfl | assumption | (rw [patErr, if_pos hb]))
 have hs : patErr p = if p.node.shape = 0 then (if p.node.binds = 0 then cndsErr p.node.vars p.conds else p.node.binds) else p.node.shape := by rw [patErr, if_neg (by rw [hb]; exact Bool.false_ne_true)]
 refine AW.skip ?_
 all_goals simp only [zs, simprocAttr]
 all_goals apply_assumption
 refine AW.seq_k fun K4 h4 => ?_
 refine AW.seq_k fun K5 h5 => ?_
 all_goals refine AW.reg0 ?_
 all_goals (refine S.g rfl rfl fun Y Z => ?_; simp only [zb, simprocAttr, -Int.reduceNatCast', -Int.reduceToNat, tt, zt117, by117, sz117]; refine ⟨rfl, (by simp), ?_⟩ <;> (refine Z _ _ ?_; clear Z Y))
 all_goals iterate 2 refine S.one @sz117 ?_
 all_goals (refine S.nil ?_; simp only [ze, simprocAttr, sz117]; apply_assumption)
 refine AW.block ?_   -- 0
 refine AW.loop (fun m s σ => σ = Hp.empty ∧ ∃ i : Nat, m + i = 2 ∧ (1 ≤ i → p.node.shape = 0) ∧ (2 ≤ i → p.node.binds = 0) ∧ s.t 1 = .lp 1 0 ∧ s.l 1 = some (encPat p) ∧ s.t 20 = .sl [[fnV 69], [fnV 70]] ∧ s.t 21 = .c (.int .i64 2) ∧ s.t 22 = .c (.int .i64 (i : Nat))) 2 ?_ ?_
 ·refine ⟨rfl, 0, by simp, (fun h => by omega), (fun h => by omega), ?_⟩
  simp only [zs, simprocAttr, e1, l1]
  all_goals ((try and_intros) <;> first | rfl | assumption | (rfl))
 rintro m s σ ⟨rfl, i, hm, hq1, hq2, e1, l1, e20, e21, e22⟩
 all_goals refine AW.sr (J2 e21 e22) ?_
 refine AW.seq_k fun K7 h7 => ?_
 refine AW.cond (b := decide (i < 2)) (by simp [ev]; omega) (fun hi => ?_) (fun hi => ?_)
 ·have hi := of_decide_eq_true hi
  have hw := wadd1 (a := i) (by omega)
  refine AW.skip ?_
  simp only [zs, simprocAttr]
  all_goals apply_assumption
  refine AW.seq_k fun K8 h8 => ?_
  refine AW.block ?_   -- 1
  refine AW.seq_j (fun s' σ' => σ' = Hp.empty ∧ s'.t 1 = .lp 1 0 ∧ s'.l 1 = some (encPat p) ∧ s'.t 20 = .sl [[fnV 69], [fnV 70]] ∧ s'.t 21 = .c (.int .i64 2) ∧ s'.t 22 = .c (.int .i64 (i : Nat)) ∧ s'.t 4 = fnV (69 + i)) ?_ ?_
  ·have hc : i = 0 ∨ i = 1 := by omega
   rcases hc with rfl | rfl
   ·skip
    have q1q := J6 e20 e22 @fnV.eq_1 @ok117 @sz117 @ag117
    refine AW.reg0 (S.rn q1q ?_)
    simp only [ze, simprocAttr, q1q]
    all_goals ((try and_intros) <;> first | rfl | assumption | (rfl))
   ·skip
    have q2q := J6 e20 e22 @fnV.eq_1 @ok117 @sz117 @ag117
    refine AW.reg0 (S.rn q2q ?_)
    simp only [ze, simprocAttr, q2q]
    all_goals ((try and_intros) <;> first | rfl | assumption | (rfl))
  rintro s σ ⟨rfl, e1, l1, e20, e21, e22, e4⟩
  refine AW.seq_j (fun s' σ' => σ' = Hp.empty ∧ s'.t 1 = .lp 1 0 ∧ s'.l 1 = some (encPat p) ∧ s'.t 20 = .sl [[fnV 69], [fnV 70]] ∧ s'.t 21 = .c (.int .i64 2) ∧ s'.t 22 = .c (.int .i64 (i : Nat)) ∧ s'.t 5 = .c (.int .i64 (if i = 0 then p.node.shape else p.node.binds))) ?_ ?_
  ·have hc : i = 0 ∨ i = 1 := by omega
   rcases hc with rfl | rfl
   ·skip
    refine AW.reg0 ?_
    iterate 3 refine S.one (J7 e4 @fnV.eq_1 e1 l1 @encPat.eq_1 hE @nd) ?_
    have q3q := J7 e4 @fnV.eq_1 e1 l1 @encPat.eq_1 hE @nd
    (refine S.g rfl rfl fun Y Z => ?_; simp only [zz, simprocAttr, -Int.reduceNatCast', -Int.reduceToNat, q3q]; (first | refine PCalls.eqto (Shape_spec _ hp.small hp.ok) ?_ | refine PCalls.eqto (Binds_spec _ hp.small (shape_err (hq1 (by omega)))) ?_) <;> (refine Z _ _ ?_; clear Z Y))
    all_goals refine S.one q3q ?_
    all_goals refine S.nil ?_
    all_goals simp only [ze, simprocAttr, q3q]
    all_goals ((try and_intros) <;> first | rfl | assumption | (rfl))
   ·skip
    refine AW.reg0 ?_
    iterate 3 refine S.one (J7 e4 @fnV.eq_1 e1 l1 @encPat.eq_1 hE @nd) ?_
    have q4q := J7 e4 @fnV.eq_1 e1 l1 @encPat.eq_1 hE @nd
    (refine S.g rfl rfl fun Y Z => ?_; simp only [zz, simprocAttr, -Int.reduceNatCast', -Int.reduceToNat, q4q]; (first | refine PCalls.eqto (Shape_spec _ hp.small hp.ok) ?_ | refine PCalls.eqto (Binds_spec _ hp.small (shape_err (hq1 (by omega)))) ?_) <;> (refine Z _ _ ?_; clear Z Y))
    all_goals refine S.one q4q ?_
    all_goals refine S.nil ?_
    all_goals simp only [ze, simprocAttr, q4q]
    all_goals ((try and_intros) <;> first | rfl | assumption | (rfl))
  rintro s σ ⟨rfl, e1, l1, e20, e21, e22, e5⟩
  all_goals refine AW.sr e5 ?_
  refine AW.cond (b := (if i = 0 then p.node.shape else p.node.binds) != 0) (by simp [ev]) (fun hc => ?_) (fun hc => ?_)
  ·have hc : ¬ (if i = 0 then p.node.shape else p.node.binds) = 0 := by simpa using hc
   refine AW.sr e5 ?_
   refine AW.ret ?_
   simp only [zs, simprocAttr]
   have hc' : patErr p = if i = 0 then p.node.shape else p.node.binds := by
    rw [hs]
    split at hc
    ·rename_i h; rw [if_pos h, if_neg hc]
    ·rename_i h; rw [if_neg h, if_pos (hq1 (by omega)), if_neg hc]
   all_goals ((try and_intros) <;> first | rfl | assumption | ((rw [hc'])))
  ·have hc : (if i = 0 then p.node.shape else p.node.binds) = 0 := by simpa using hc
   refine AW.skip ?_
   simp only [zs, simprocAttr]
   all_goals apply_assumption
   have q5q := J6 e1 l1 e20 e21 e22 hw
   refine AW.reg0 (S.rn q5q ?_)
   simp only [ze, simprocAttr, q5q]
   refine ⟨m - 1, by omega, i + 1, by omega, (fun _ => ?_), (fun _ => ?_), ?_⟩
   ·by_cases h : i = 0
    ·rw [if_pos h] at hc; exact hc
    ·exact hq1 (by omega)
   ·rw [if_neg (by omega)] at hc; exact hc
   all_goals ((try and_intros) <;> first | rfl | assumption | (rfl))
 ·have hi := of_decide_eq_false hi
  have hs0 := hq1 (by omega)
  rw [if_pos hs0, if_pos (hq2 (by omega))] at hs
  refine AW.exit ?_
  simp only [zs, simprocAttr]
  all_goals apply_assumption
  refine AW.seq_k fun K11 h11 => ?_
  refine AW.dv { sd := fun d => d == 1 } [(0,0),(2,0),(1,1),(3,1),(4,2),(5,2),(6,0)] ?_
  have q6q := J5 e1 l1 @encPat.eq_1 hE @nd
  iterate 2 refine D.one q6q ?_
  iterate 2 refine D.one q6q ?_
  (refine D.g rfl trivial rfl rfl fun Y Z => ?_; simp only [zz, simprocAttr, -Int.reduceNatCast', -Int.reduceToNat, e1, l1, encPat, hE, nd]; refine PCalls.eqto (Vars_spec hp.small (shape_err hs0)) ?_ <;> (refine Z _ _ ?_; clear Z Y))
  all_goals have q7q := J5 e1 l1 @encPat.eq_1 hE @nd
  all_goals (refine D.g rfl trivial rfl rfl fun Y Z => ?_; simp only [zz, simprocAttr, -Int.reduceNatCast', -Int.reduceToNat, q7q]; refine PCalls.eqto (conds_spec p.conds p.node.vars hp.conds hp.len (by omega)) ?_ <;> (refine Z _ _ ?_; clear Z Y))
  all_goals refine D.one q7q ?_
  all_goals (refine D.nil ?_; apply_assumption)
  refine AW.ret ?_
  all_goals simp only [zs, simprocAttr]
  all_goals ((try and_intros) <;> first | rfl | assumption | ((rw [hs])))
end Go.Abs.M
namespace Go.Abs.M
open Go Go.Abs Go.Proofs
variable [Mode]
set_option maxRecDepth 20000
structure OpS where
  kind : Int
  var : ByteArray
  type : ByteArray
  tests : List Cnd
  conds : List Cnd
  win : Int
  ins : Int
def encOp (o : OpS) : List V := [.c (.int .i64 o.kind), .c (.string o.var), .c (.string o.type), .sl (o.tests.map encC), .sl (o.conds.map encC), .c (.int .i64 o.win), .c (.int .i64 o.ins)]
def encF (l : List Int) : List V := [.sl (l.map encI)]
structure Pln where
  ops : List OpS
  from_ : List (List Int)
def encPl (x : Pln) : List V := [.sl (x.ops.map encOp), .sl (x.from_.map encF)]
def eqC (a b : Cnd) : Bool := eqS a.l.var b.l.var && (eqS a.l.attr b.l.attr && (a.l.v.kind == b.l.v.kind && (a.l.v.n == b.l.v.n && (eqS a.l.v.s b.l.v.s && (a.rel == b.rel && (eqS a.r.var b.r.var && (eqS a.r.attr b.r.attr && (a.r.v.kind == b.r.v.kind && (a.r.v.n == b.r.v.n && eqS a.r.v.s b.r.v.s)))))))))
def eqI (a b : Int) : Bool := a == b
theorem eqA45 (d : Nat) (w : World) (x0 y0 x1 y1 : ByteArray) (x2 y2 x3 y3 : Int) (x4 y4 : ByteArray) :
  (Op.equalIn (d + 3) 45 (.agg #[.string x0, .string x1, .int .i64 x2, .int .i64 x3, .string x4]) (.agg #[.string y0, .string y1, .int .i64 y2, .int .i64 y3, .string y4])).run Tryz.prog w = .ok (x0.toList == y0.toList && (x1.toList == y1.toList && ((x2 == y2 && (x3 == y3 && (x4.toList == y4.toList)))))) w := by
 refine eqF_of Tryz.underlying45 (by kernel_rfl) ?_
 refine eqF_more (by rfl) (by go_simp; rfl) (by go_simp; rfl) (by go_simp) ?_
 refine eqF_more (by rfl) (by go_simp; rfl) (by go_simp; rfl) (by go_simp) ?_
 exact eqF_one (by rfl) (by go_simp) (by go_simp) (eqA43 (d + 0) w _ _ _ _ _ _)
theorem eqA47 (d : Nat) (w : World) (x0 y0 x1 y1 : ByteArray) (x2 y2 x3 y3 : Int) (x4 y4 : ByteArray) (r s : Int) (u0 v0 u1 v1 : ByteArray) (u2 v2 u3 v3 : Int) (u4 v4 : ByteArray) :
  (Op.equalIn (d + 4) 47 (.agg #[.string x0, .string x1, .int .i64 x2, .int .i64 x3, .string x4, .int .i64 r, .string u0, .string u1, .int .i64 u2, .int .i64 u3, .string u4]) (.agg #[.string y0, .string y1, .int .i64 y2, .int .i64 y3, .string y4, .int .i64 s, .string v0, .string v1, .int .i64 v2, .int .i64 v3, .string v4])).run Tryz.prog w = .ok ((x0.toList == y0.toList && (x1.toList == y1.toList && ((x2 == y2 && (x3 == y3 && (x4.toList == y4.toList)))))) && (r == s && (u0.toList == v0.toList && (u1.toList == v1.toList && ((u2 == v2 && (u3 == v3 && (u4.toList == v4.toList)))))))) w := by
 refine eqF_of Tryz.underlying47 (by kernel_rfl) ?_
 refine eqF_more (by rfl) (by go_simp) (by go_simp) (eqA45 (d + 0) w _ _ _ _ _ _ _ _ _ _) ?_
 refine eqF_more (by rfl) (by go_simp; rfl) (by go_simp; rfl) (by go_simp) ?_
 exact eqF_one (by rfl) (by go_simp) (by go_simp) (eqA45 (d + 0) w _ _ _ _ _ _ _ _ _ _)
def kC : List SK := [.str, .str, .int .i64, .int .i64, .str, .int .i64, .str, .str, .int .i64, .int .i64, .str]
theorem eqt47 : EqT Tryz.prog 47 kC := by
 refine ⟨fun op x y xs ys w => run_guard_agg (by kernel_rfl) xs ys w, fun xs ys hx hy w => ?_⟩
 obtain ⟨a0, as0, rfl, ap0⟩ := fitS hx
 obtain ⟨a1, as1, rfl, ap1⟩ := fitS ap0
 obtain ⟨a2, as2, rfl, ap2⟩ := fitI ap1
 obtain ⟨a3, as3, rfl, ap3⟩ := fitI ap2
 obtain ⟨a4, as4, rfl, ap4⟩ := fitS ap3
 obtain ⟨a5, as5, rfl, ap5⟩ := fitI ap4
 obtain ⟨a6, as6, rfl, ap6⟩ := fitS ap5
 obtain ⟨a7, as7, rfl, ap7⟩ := fitS ap6
 obtain ⟨a8, as8, rfl, ap8⟩ := fitI ap7
 obtain ⟨a9, as9, rfl, ap9⟩ := fitI ap8
 obtain ⟨a10, as10, rfl, ap10⟩ := fitS ap9
 obtain ⟨b0, bs0, rfl, bp0⟩ := fitS hy
 obtain ⟨b1, bs1, rfl, bp1⟩ := fitS bp0
 obtain ⟨b2, bs2, rfl, bp2⟩ := fitI bp1
 obtain ⟨b3, bs3, rfl, bp3⟩ := fitI bp2
 obtain ⟨b4, bs4, rfl, bp4⟩ := fitS bp3
 obtain ⟨b5, bs5, rfl, bp5⟩ := fitI bp4
 obtain ⟨b6, bs6, rfl, bp6⟩ := fitS bp5
 obtain ⟨b7, bs7, rfl, bp7⟩ := fitS bp6
 obtain ⟨b8, bs8, rfl, bp8⟩ := fitI bp7
 obtain ⟨b9, bs9, rfl, bp9⟩ := fitI bp8
 obtain ⟨b10, bs10, rfl, bp10⟩ := fitS bp9
 rw [fit0 ap10, fit0 bp10]
 have := eqA47 9996 w a0 b0 a1 b1 a2 b2 a3 b3 a4 b4 a5 b5 a6 b6 a7 b7 a8 b8 a9 b9 a10 b10
 simpa [Op.equal, Op.maxDepth, cellsEq, cellEq, Bool.and_assoc] using this
def eqTab2 (t : TypeId) : Option (List SK) := if t = 47 then some kC else eqTab t
theorem eqTab2_ok : ∀ t ks, eqTab2 t = some ks → EqT Tryz.prog t ks := fun t ks h => by
 unfold eqTab2 at h
 split at h
 ·rename_i e; subst e; injection h with h; subst h; exact eqt47
 ·exact eqTab_ok t ks h
theorem eqk47 : eqTab2 47 = some kC := rfl
theorem rsameI (l r : List Int) (hl : l.length < 4611686018427387904) : PCalls Tryz.prog 43 [.sl (l.map encI), .sl (r.map encI)] (fun v => v = .c (.bool (allEq eqI l r))) := by
 refine PCalls.intro Tryz.call43 Tryz.func43 rfl Tryz.ntmps43 Tryz.results43 (by simp) ?_
 refine AW.sr trivial ?_
 refine AW.seq_k fun K2 h2 => ?_
 refine AW.sr trivial ?_
 refine AW.cond (b := ((l.length : Int) != r.length)) (by simp [ev]) (fun hc => ?_) (fun hc => ?_)
 ·refine AW.sr trivial ?_
  refine AW.ret ?_
  simp only [zs, simprocAttr]
  rw [allEq_len (by simp at hc; omega)]
 ·refine AW.skip ?_
  simp only [zs, simprocAttr]
  all_goals apply_assumption
  have hlr : l.length = r.length := by simp at hc; omega
  refine AW.seq_k fun K5 h5 => ?_
  refine AW.sr trivial ?_
  refine AW.block ?_   -- 0
  refine AW.loop (fun m s σ => σ = Hp.empty ∧ ∃ i : Nat, m + i = l.length ∧ s.t 0 = .sl (l.map encI) ∧ s.t 1 = .sl (r.map encI) ∧ s.t 5 = .c (.int .i64 i) ∧ allEq eqI l r = allEq eqI (l.drop i) (r.drop i)) l.length ?_ ?_
  ·refine ⟨rfl, 0, by simp, ?_⟩
   simp only [zs, simprocAttr]
   simp
  rintro m s σ ⟨rfl, i, hm, e0, e1, e5, hp⟩
  refine AW.seq_k fun K7 h7 => ?_
  all_goals refine AW.sr (J2 e5 e0) ?_
  refine AW.cond (b := decide (i < l.length)) (by simp [ev]) (fun hc => ?_) (fun hc => ?_)
  ·refine AW.skip ?_
   simp only [zs, simprocAttr]
   all_goals apply_assumption
   have hi : i < l.length := by simpa using hc
   have hj : i < r.length := by omega
   have hg := getD_map (f := encI) hi
   have hg2 := getD_map (f := encI) hj
   have hd : l.drop i = l[i] :: l.drop (i + 1) := List.drop_eq_getElem_cons hi
   have hd2 : r.drop i = r[i] :: r.drop (i + 1) := List.drop_eq_getElem_cons hj
   generalize ha : l[i] = a at hg hd
   generalize hb : r[i] = b at hg2 hd2
   rw [hd, hd2, allEq] at hp
   have hw := wadd1 (a := i) (by omega)
   refine AW.seq_k fun K9 h9 => ?_
   refine AW.block ?_   -- 1
   refine AW.seq_k fun K10 h10 => ?_
   refine AW.dw [(0,0),(1,0),(2,0),(4,0),(5,0),(6,0),(3,1),(7,1),(8,0)] ?_
   have q1q := J9 e0 e1 e5 hi hj hg hg2 @encI.eq_1 @List.length_map.{0,0}
   iterate 6 refine D.one q1q ?_
   iterate 2 refine D.one q1q ?_
   refine D.one q1q ?_
   (refine D.nil ?_; apply_assumption)
   refine AW.cond (b := !eqI a b) (by simp [ev, eqI, bne]) (fun hc => ?_) (fun hc => ?_)
   ·refine AW.sr trivial ?_
    refine AW.ret ?_
    simp only [zs, simprocAttr]
    have hx : eqI a b = false := by simpa using hc
    simp [hp, hx]
   ·refine AW.skip ?_
    simp only [zs, simprocAttr]
    all_goals apply_assumption
    have hx : eqI a b = true := by simpa using hc
    refine AW.reg0 (S.rn (J2 e5 hw) ?_)
    simp only [ze, simprocAttr, e5, hw]
    refine ⟨m - 1, by omega, i + 1, by omega, e0, e1, rfl, ?_⟩
    rw [hp, hx, Bool.true_and]
  ·refine AW.exit ?_
   simp only [zs, simprocAttr]
   all_goals apply_assumption
   refine AW.sr trivial ?_
   refine AW.ret ?_
   simp only [zs, simprocAttr]
   have hi : l.length ≤ i := by simpa using hc
   rw [hp, List.drop_of_length_le hi, List.drop_of_length_le (by omega), allEq]
theorem rsameC (l r : List Cnd) (hl : l.length < 4611686018427387904) : PCalls Tryz.prog 60 [.sl (l.map encC), .sl (r.map encC)] (fun v => v = .c (.bool (allEq eqC l r))) := by
 refine PCalls.intro Tryz.call60 Tryz.func60 rfl Tryz.ntmps60 Tryz.results60 (by simp) ?_
 refine AW.sr trivial ?_
 refine AW.seq_k fun K2 h2 => ?_
 refine AW.sr trivial ?_
 refine AW.cond (b := ((l.length : Int) != r.length)) (by simp [ev]) (fun hc => ?_) (fun hc => ?_)
 ·refine AW.sr trivial ?_
  refine AW.ret ?_
  simp only [zs, simprocAttr]
  rw [allEq_len (by simp at hc; omega)]
 ·refine AW.skip ?_
  simp only [zs, simprocAttr]
  all_goals apply_assumption
  have hlr : l.length = r.length := by simp at hc; omega
  refine AW.seq_k fun K5 h5 => ?_
  refine AW.sr trivial ?_
  refine AW.block ?_   -- 0
  refine AW.loop (fun m s σ => σ = Hp.empty ∧ ∃ i : Nat, m + i = l.length ∧ s.t 0 = .sl (l.map encC) ∧ s.t 1 = .sl (r.map encC) ∧ s.t 5 = .c (.int .i64 i) ∧ allEq eqC l r = allEq eqC (l.drop i) (r.drop i)) l.length ?_ ?_
  ·refine ⟨rfl, 0, by simp, ?_⟩
   simp only [zs, simprocAttr]
   simp
  rintro m s σ ⟨rfl, i, hm, e0, e1, e5, hp⟩
  refine AW.seq_k fun K7 h7 => ?_
  all_goals refine AW.sr (J2 e5 e0) ?_
  refine AW.cond (b := decide (i < l.length)) (by simp [ev]) (fun hc => ?_) (fun hc => ?_)
  ·refine AW.skip ?_
   simp only [zs, simprocAttr]
   all_goals apply_assumption
   have hi : i < l.length := by simpa using hc
   have hj : i < r.length := by omega
   have hg := getD_map (f := encC) hi
   have hg2 := getD_map (f := encC) hj
   have hd : l.drop i = l[i] :: l.drop (i + 1) := List.drop_eq_getElem_cons hi
   have hd2 : r.drop i = r[i] :: r.drop (i + 1) := List.drop_eq_getElem_cons hj
   generalize ha : l[i] = a at hg hd
   generalize hb : r[i] = b at hg2 hd2
   rw [hd, hd2, allEq] at hp
   have hw := wadd1 (a := i) (by omega)
   refine AW.seq_k fun K9 h9 => ?_
   refine AW.block ?_   -- 1
   refine AW.seq_k fun K10 h10 => ?_
   refine AW.draw (T := { sd := fun _ => false, eqk := eqTab2 }) (eqTab2_ok) mixedO [(0, 0), (1, 0), (2, 0), (4, 0), (5, 0), (6, 0), (3, 1), (7, 1), (8, 0)] rfl (by kernel_rfl) (by kernel_rfl) ?_
   have q1q := J12 e0 e1 e5 hi hj hg hg2 @encC.eq_1 @encO.eq_1 @kC.eq_1 @List.length_map.{0,0} (J2 @List.cons_append.{0} @List.nil_append.{0})
   iterate 6 refine D.one q1q ?_
   iterate 2 refine D.one q1q ?_
   refine D.one (J12 @eqk47 @fitsAll.eq_1 @fitsAll.eq_2 @fitsAll.eq_3 @SK.fits.eq_1 @SK.fits.eq_2 @SK.fits.eq_3 @SK.fits.eq_4 @cellsEq.eq_1 @cellsEq.eq_2 @cellsEq.eq_3 (J12 @cellEq.eq_1 @cellEq.eq_2 @cellEq.eq_3 @cellEq.eq_4 e0 e1 e5 hi hj hg hg2 (J6 @encC.eq_1 @encO.eq_1 @kC.eq_1 @List.length_map.{0,0} @List.cons_append.{0} @List.nil_append.{0}))) ?_
   (refine D.nil ?_; apply_assumption)
   refine AW.cond (b := !eqC a b) (by simp only [ev, St.put_t, Nat.reduceEqDiff, if_true]; rfl) (fun hc => ?_) (fun hc => ?_)
   ·refine AW.sr trivial ?_
    refine AW.ret ?_
    simp only [zs, simprocAttr]
    have hx : eqC a b = false := by simpa using hc
    simp [hp, hx]
   ·refine AW.skip ?_
    simp only [zs, simprocAttr]
    all_goals apply_assumption
    have hx : eqC a b = true := by simpa using hc
    refine AW.reg0 (S.rn (J2 e5 hw) ?_)
    simp only [ze, simprocAttr, e5, hw]
    refine ⟨m - 1, by omega, i + 1, by omega, e0, e1, rfl, ?_⟩
    rw [hp, hx, Bool.true_and]
  ·refine AW.exit ?_
   simp only [zs, simprocAttr]
   all_goals apply_assumption
   refine AW.sr trivial ?_
   refine AW.ret ?_
   simp only [zs, simprocAttr]
   have hi : l.length ≤ i := by simpa using hc
   rw [hp, List.drop_of_length_le hi, List.drop_of_length_le (by omega), allEq]
theorem equalI (l r : List Int) (hl : l.length < 4611686018427387904) : PCalls Tryz.prog 19 [.sl (l.map encI), .sl (r.map encI)] (fun v => v = .c (.bool (allEq eqI l r))) := by
 refine PCalls.intro Tryz.call19 Tryz.func19 rfl Tryz.ntmps19 Tryz.results19 (by simp) ?_
 refine AW.sr trivial ?_
 refine AW.seq_k fun K2 h2 => ?_
 refine AW.sr trivial ?_
 refine AW.cond (b := ((l.length : Int) != r.length)) (by simp [ev]) (fun hc => ?_) (fun hc => ?_)
 ·refine AW.sr trivial ?_
  refine AW.ret ?_
  simp only [zs, simprocAttr]
  rw [allEq_len (by simp at hc; omega)]
 ·refine AW.skip ?_
  simp only [zs, simprocAttr]
  all_goals apply_assumption
  have hlr : l.length = r.length := by simp at hc; omega
  refine AW.seq_k fun K5 h5 => ?_
  refine AW.sr @List.length_map.{0,0} ?_
  refine AW.block ?_   -- 0
  refine AW.loop (fun m s σ => σ = Hp.empty ∧ ∃ i : Nat, m + i = l.length ∧ s.t 0 = .sl (l.map encI) ∧ s.t 1 = .sl (r.map encI) ∧ s.t 12 = .c (.int .i64 (l.length : Nat)) ∧ s.t 13 = .c (.int .i64 (i : Nat)) ∧ allEq eqI l r = allEq eqI (l.drop i) (r.drop i)) l.length ?_ ?_
  ·refine ⟨rfl, 0, by simp, ?_⟩
   simp only [zs, simprocAttr]
   simp
  rintro m s σ ⟨rfl, i, hm, e0, e1, e12, e13, hp⟩
  all_goals refine AW.sr (J2 e12 e13) ?_
  refine AW.seq_k fun K8 h8 => ?_
  refine AW.cond (b := decide (i < l.length)) (by simp [ev]) (fun hc => ?_) (fun hc => ?_)
  ·refine AW.skip ?_
   simp only [zs, simprocAttr]
   all_goals apply_assumption
   have hi : i < l.length := by simpa using hc
   have hj : i < r.length := by omega
   have hg := getD_map (f := encI) hi
   have hg2 := getD_map (f := encI) hj
   have hd : l.drop i = l[i] :: l.drop (i + 1) := List.drop_eq_getElem_cons hi
   have hd2 : r.drop i = r[i] :: r.drop (i + 1) := List.drop_eq_getElem_cons hj
   generalize ha : l[i] = a at hg hd
   generalize hb : r[i] = b at hg2 hd2
   rw [hd, hd2, allEq] at hp
   have hw := wadd1 (a := i) (by omega)
   refine AW.seq_k fun K9 h9 => ?_
   refine AW.block ?_   -- 1
   refine AW.sr e13 ?_
   refine AW.seq_k fun K11 h11 => ?_
   refine AW.dw [(0,0),(1,0),(2,0),(4,0),(5,0),(6,0),(3,1),(7,1),(8,0)] ?_
   have q1q := J9 e0 e1 e13 hi hj hg hg2 @encI.eq_1 @List.length_map.{0,0}
   iterate 6 refine D.one q1q ?_
   iterate 2 refine D.one q1q ?_
   refine D.one q1q ?_
   (refine D.nil ?_; apply_assumption)
   refine AW.cond (b := !eqI a b) (by simp [ev, eqI, bne]) (fun hc => ?_) (fun hc => ?_)
   ·refine AW.sr trivial ?_
    refine AW.ret ?_
    simp only [zs, simprocAttr]
    have hx : eqI a b = false := by simpa using hc
    simp [hp, hx]
   ·refine AW.skip ?_
    simp only [zs, simprocAttr]
    all_goals apply_assumption
    have hx : eqI a b = true := by simpa using hc
    refine AW.reg0 (S.rn (J3 e12 e13 hw) ?_)
    simp only [ze, simprocAttr, e12, e13, hw]
    refine ⟨m - 1, by omega, i + 1, by omega, e0, e1, ?_⟩
    rw [hp, hx, Bool.true_and]
    all_goals ((try and_intros) <;> first | rfl | assumption | (rfl))
  ·refine AW.exit ?_
   simp only [zs, simprocAttr]
   all_goals apply_assumption
   refine AW.sr trivial ?_
   refine AW.ret ?_
   simp only [zs, simprocAttr]
   have hi : l.length ≤ i := by simpa using hc
   rw [hp, List.drop_of_length_le hi, List.drop_of_length_le (by omega), allEq]
theorem equalC (l r : List Cnd) (hl : l.length < 4611686018427387904) : PCalls Tryz.prog 87 [.sl (l.map encC), .sl (r.map encC)] (fun v => v = .c (.bool (allEq eqC l r))) := by
 refine PCalls.intro Tryz.call87 Tryz.func87 rfl Tryz.ntmps87 Tryz.results87 (by simp) ?_
 refine AW.sr trivial ?_
 refine AW.seq_k fun K2 h2 => ?_
 refine AW.sr trivial ?_
 refine AW.cond (b := ((l.length : Int) != r.length)) (by simp [ev]) (fun hc => ?_) (fun hc => ?_)
 ·refine AW.sr trivial ?_
  refine AW.ret ?_
  simp only [zs, simprocAttr]
  rw [allEq_len (by simp at hc; omega)]
 ·refine AW.skip ?_
  simp only [zs, simprocAttr]
  all_goals apply_assumption
  have hlr : l.length = r.length := by simp at hc; omega
  refine AW.seq_k fun K5 h5 => ?_
  refine AW.sr @List.length_map.{0,0} ?_
  refine AW.block ?_   -- 0
  refine AW.loop (fun m s σ => σ = Hp.empty ∧ ∃ i : Nat, m + i = l.length ∧ s.t 0 = .sl (l.map encC) ∧ s.t 1 = .sl (r.map encC) ∧ s.t 12 = .c (.int .i64 (l.length : Nat)) ∧ s.t 13 = .c (.int .i64 (i : Nat)) ∧ allEq eqC l r = allEq eqC (l.drop i) (r.drop i)) l.length ?_ ?_
  ·refine ⟨rfl, 0, by simp, ?_⟩
   simp only [zs, simprocAttr]
   simp
  rintro m s σ ⟨rfl, i, hm, e0, e1, e12, e13, hp⟩
  all_goals refine AW.sr (J2 e12 e13) ?_
  refine AW.seq_k fun K8 h8 => ?_
  refine AW.cond (b := decide (i < l.length)) (by simp [ev]) (fun hc => ?_) (fun hc => ?_)
  ·refine AW.skip ?_
   simp only [zs, simprocAttr]
   all_goals apply_assumption
   have hi : i < l.length := by simpa using hc
   have hj : i < r.length := by omega
   have hg := getD_map (f := encC) hi
   have hg2 := getD_map (f := encC) hj
   have hd : l.drop i = l[i] :: l.drop (i + 1) := List.drop_eq_getElem_cons hi
   have hd2 : r.drop i = r[i] :: r.drop (i + 1) := List.drop_eq_getElem_cons hj
   generalize ha : l[i] = a at hg hd
   generalize hb : r[i] = b at hg2 hd2
   rw [hd, hd2, allEq] at hp
   have hw := wadd1 (a := i) (by omega)
   refine AW.seq_k fun K9 h9 => ?_
   refine AW.block ?_   -- 1
   refine AW.sr e13 ?_
   refine AW.seq_k fun K11 h11 => ?_
   refine AW.draw (T := { sd := fun _ => false, eqk := eqTab2 }) (eqTab2_ok) mixedO [(0, 0), (1, 0), (2, 0), (4, 0), (5, 0), (6, 0), (3, 1), (7, 1), (8, 0)] rfl (by kernel_rfl) (by kernel_rfl) ?_
   have q1q := J12 e0 e1 e13 hi hj hg hg2 @encC.eq_1 @encO.eq_1 @kC.eq_1 @List.length_map.{0,0} (J2 @List.cons_append.{0} @List.nil_append.{0})
   iterate 6 refine D.one q1q ?_
   iterate 2 refine D.one q1q ?_
   refine D.one (J12 @eqk47 @fitsAll.eq_1 @fitsAll.eq_2 @fitsAll.eq_3 @SK.fits.eq_1 @SK.fits.eq_2 @SK.fits.eq_3 @SK.fits.eq_4 @cellsEq.eq_1 @cellsEq.eq_2 @cellsEq.eq_3 (J12 @cellEq.eq_1 @cellEq.eq_2 @cellEq.eq_3 @cellEq.eq_4 e0 e1 e13 hi hj hg hg2 (J6 @encC.eq_1 @encO.eq_1 @kC.eq_1 @List.length_map.{0,0} @List.cons_append.{0} @List.nil_append.{0}))) ?_
   (refine D.nil ?_; apply_assumption)
   refine AW.cond (b := !eqC a b) (by simp only [ev, St.put_t, Nat.reduceEqDiff, if_true]; rfl) (fun hc => ?_) (fun hc => ?_)
   ·refine AW.sr trivial ?_
    refine AW.ret ?_
    simp only [zs, simprocAttr]
    have hx : eqC a b = false := by simpa using hc
    simp [hp, hx]
   ·refine AW.skip ?_
    simp only [zs, simprocAttr]
    all_goals apply_assumption
    have hx : eqC a b = true := by simpa using hc
    refine AW.reg0 (S.rn (J3 e12 e13 hw) ?_)
    simp only [ze, simprocAttr, e12, e13, hw]
    refine ⟨m - 1, by omega, i + 1, by omega, e0, e1, ?_⟩
    rw [hp, hx, Bool.true_and]
    all_goals ((try and_intros) <;> first | rfl | assumption | (rfl))
  ·refine AW.exit ?_
   simp only [zs, simprocAttr]
   all_goals apply_assumption
   refine AW.sr trivial ?_
   refine AW.ret ?_
   simp only [zs, simprocAttr]
   have hi : l.length ≤ i := by simpa using hc
   rw [hp, List.drop_of_length_le hi, List.drop_of_length_le (by omega), allEq]
end Go.Abs.M
namespace Go.Abs.M
open Go Go.Abs Go.Proofs
set_option maxRecDepth 20000
theorem lessS_spec (a b : ByteArray) : PCalls Tryz.prog 213 [.c (.string a), .c (.string b)] (fun v => v = .c (.bool (Op.bytesLess a.toList b.toList))) := by
 refine PCalls.intro Tryz.call213 Tryz.func213 rfl Tryz.ntmps213 Tryz.results213 (by simp) ?_
 refine AW.sr trivial ?_
 refine AW.seq_k fun K2 h2 => ?_
 refine AW.reg0 ?_
 refine S.one trivial ?_
 (refine S.g rfl rfl fun Y Z => ?_; simp only [zz, simprocAttr, -Int.reduceNatCast', -Int.reduceToNat]; refine PCalls.eqto (isnan_spec _) ?_; refine S.bool fun b a6 => ?_; cases b <;> (try exact nope a6) <;> (refine Z _ _ ?_; clear Z Y))
 all_goals iterate 2 refine S.one trivial ?_
 all_goals (first | (refine S.y rfl rfl rfl rfl fun Y Z => ?_; simp only [zz, simprocAttr, -Int.reduceNatCast', -Int.reduceToNat]; refine PCalls.eqto (isnan_spec _) ?_; refine S.bool fun b a9 => ?_; cases b <;> (try exact nope a9) <;> (refine Z _ _ ?_; clear Z Y)) | ((first | refine S.x rfl rfl rfl rfl fun Y Z => ?_ | refine S.u rfl rfl rfl rfl fun Y Z => ?_); simp only [ze, simprocAttr, -Int.reduceNatCast', -Int.reduceToNat]; refine Z _ _ ?_; clear Z Y))
 all_goals iterate 8 refine S.one trivial ?_
 all_goals (refine S.nil ?_; simp only [ze, simprocAttr]; apply_assumption)
 refine AW.ret ?_
 all_goals simp only [zs, simprocAttr]
 all_goals simp
def hpZ (k : Nat) (l : List ByteArray) : Hp := Hp.empty.setGr k (some ((9, 1), l.map encS))
theorem perm_swap {l : List ByteArray} {j : Nat} {x y : ByteArray} (h : 0 < j) (hx : l[j]? = some x) (hy : l[j-1]? = some y) : ((l.set j y).set (j - 1) x).Perm l := by
 have hj : j < l.length := (List.getElem?_eq_some_iff.1 hx).1
 have e1 : l[j] = x := (List.getElem?_eq_some_iff.1 hx).2
 have e2 : l[j-1]'(by omega) = y := by
  have := (List.getElem?_eq_some_iff.1 hy).2; exact this
 rw [← e1, ← e2]
 exact List.set_set_perm hj (by omega)
theorem insortS_spec (l : List ByteArray) (k lo hi : Nat) (hlo : lo ≤ hi) (hhi : hi ≤ l.length) (hn : l.length < 4611686018427387904) :
    ACalls Tryz.prog 207 [.gl k, .c (.int .i64 lo), .c (.int .i64 hi)] (hpZ k l) (fun v σ' => v = .tup [] ∧ ∃ l', l'.Perm l ∧ σ' = hpZ k l') := by
  refine ACalls.intro Tryz.call207 Tryz.func207 rfl Tryz.ntmps207 Tryz.results207 (by simp) ?_
  have hw1 : IntKind.i64.wrap ((lo : Int) + 1) = ((lo + 1 : Nat) : Int) := by rw [wrap_small _ (by omega) (by omega)]; rfl
  refine AW.sr hw1 ?_
  refine AW.block ?_   -- 0
  refine AW.loop (fun m s σ => ∃ i l', m + i = hi + 1 + lo ∧ lo + 1 ≤ i ∧ s.t 0 = .gl k ∧ s.t 1 = .c (.int .i64 lo) ∧ s.t 2 = .c (.int .i64 hi) ∧ s.t 6 = .c (.int .i64 (i : Nat)) ∧
    σ = hpZ k l' ∧ l'.Perm l) hi ?_ ?_
  · refine ⟨lo + 1, l, by omega, Nat.le_refl _, ?_⟩
    simp only [zs, simprocAttr]
    simp
  rintro m s σ ⟨i, l', hm, hi1, e0, e1, e2, e6, rfl, hl'⟩
  have hll := hl'.length_eq
  refine AW.seq_k fun K2 h2 => ?_
  refine AW.sr (J2 e2 e6) ?_
  refine AW.cond (b := decide (i < hi)) (by simp [ev]) (fun hc => ?_) (fun hc => ?_)
  · refine AW.skip ?_
    simp only [zs, simprocAttr]
    all_goals apply_assumption
    have hih : i < hi := by simpa using hc
    refine AW.seq_k fun K4 h4 => ?_
    refine AW.block ?_   -- 1
    refine AW.sr e6 ?_
    refine AW.block ?_   -- 2
    refine AW.loop (fun m s σ => ∃ j l2, m = j ∧ j ≤ i ∧ s.t 0 = .gl k ∧ s.t 1 = .c (.int .i64 lo) ∧ s.t 2 = .c (.int .i64 hi) ∧ s.t 6 = .c (.int .i64 (i : Nat)) ∧ s.t 7 = .c (.int .i64 (j : Nat)) ∧
      σ = hpZ k l2 ∧ l2.Perm l) i ?_ ?_
    · refine ⟨i, l', rfl, Nat.le_refl _, ?_⟩
      simp only [zs, simprocAttr]
      refine ⟨e0, e1, e2, e6, hl'⟩
    rintro j s2 σ2 ⟨_, l2, rfl, hji, f0, f1, f2, f6, f7, rfl, hl2⟩
    have hl2l := hl2.length_eq
    refine AW.seq_k fun K6 h6 => ?_
    refine AW.seq_j (fun s' σ' => σ' = hpZ k l2 ∧ s'.t 0 = .gl k ∧ s'.t 1 = .c (.int .i64 lo) ∧ s'.t 2 = .c (.int .i64 hi) ∧ s'.t 6 = .c (.int .i64 (i : Nat)) ∧ s'.t 7 = .c (.int .i64 (j : Nat)) ∧
      ∃ b, s'.t 30 = .c (.bool b) ∧ (b = true → lo < j ∧ ∃ x y : ByteArray, l2[j]? = some x ∧ l2[j-1]? = some y)) ?_ ?_
    · have hpb : (hpZ k l2).gr k = some ((9, 1), l2.map encS) := by simp [hpZ]
      by_cases hlj : lo < j
      · have hj1 : j < l2.length := by omega
        have hj2 : j - 1 < l2.length := by omega
        have hg1 := getD_map (f := encS) hj1
        have hg2 := getD_map (f := encS) hj2
        have hx : l2[j]? = some l2[j] := List.getElem?_eq_getElem hj1
        have hy : l2[j-1]? = some l2[j-1] := List.getElem?_eq_getElem hj2
        generalize l2[j] = x at hg1 hx
        generalize l2[j-1] = y at hg2 hy
        have hw : IntKind.i64.wrap ((j : Int) - 1) = ((j - 1 : Nat) : Int) := by rw [wrap_small _ (by omega) (by omega)]; omega
        generalize hsg : hpZ k l2 = σ0 at hpb ⊢
        refine AW.draw2 (T := { sd := fun _ => false }) (fun _ _ h => by cases h) mixedO [(0, 0), (1, 0), (2, 0), (3, 0), (4, 0), (5, 0), (6, 0), (8, 0), (9, 0), (10, 0), (11, 0)] 7 12 [(13, 2), (14, 0)] #[true, true, true, true, true, true, true, false, true, true, true, true, false, false, false] rfl (by kernel_rfl) (by kernel_rfl) (by kernel_rfl) (by kernel_rfl) (by kernel_rfl) ?_
        all_goals have q1q := J10 f0 f1 f7 hpb hj1 hj2 hg1 hg2 hw @encS.eq_1
        all_goals iterate 2 refine D.one q1q ?_
        all_goals (refine D.sp q1q fun b a18 => ?_; cases b <;> (try exact nope a18))
        all_goals iterate 8 refine D.one q1q ?_
        all_goals refine D.nil ⟨?_, ?_⟩
        all_goals iterate 2 refine D.one q1q ?_
        all_goals have q2q := J10 f0 f1 f7 hpb hj1 hj2 hg1 hg2 hw @encS.eq_1
        all_goals (first | (refine D.y rfl trivial rfl rfl rfl rfl fun Y Z => ?_; simp only [zz, simprocAttr, -Int.reduceNatCast', -Int.reduceToNat, q2q]; refine PCalls.eqto (lessS_spec x y) ?_ <;> (refine Z _ _ ?_; clear Z Y)) | ((first | refine D.x rfl (fun h => by cases h) rfl rfl rfl rfl fun Y Z => ?_ | refine D.u rfl (fun h => by cases h) rfl rfl rfl rfl fun Y Z => ?_); simp only [ze, simprocAttr, -Int.reduceNatCast', -Int.reduceToNat]; refine Z _ _ ?_; clear Z Y))
        all_goals refine D.one q2q ?_
        all_goals refine D.nil ?_
        all_goals simp only [ze, simprocAttr, q2q]
        all_goals exact ⟨f2, f6, _, rfl, fun h => ⟨hlj, x, y, hx, hy⟩⟩
      · generalize hsg : hpZ k l2 = σ0 at hpb ⊢
        refine AW.draw2 (T := { sd := fun _ => false }) (fun _ _ h => by cases h) mixedO [(0, 0), (1, 0), (2, 0), (3, 0), (4, 0), (5, 0), (6, 0), (8, 0), (9, 0), (10, 0), (11, 0)] 7 12 [(13, 2), (14, 0)] #[true, true, true, true, true, true, true, false, true, true, true, true, false, false, false] rfl (by kernel_rfl) (by kernel_rfl) (by kernel_rfl) (by kernel_rfl) (by kernel_rfl) ?_
        all_goals iterate 2 refine D.one (J3 f0 f1 f7) ?_
        all_goals (refine D.sp (J3 f0 f1 f7) fun b a18 => ?_; cases b <;> (try exact nope a18))
        all_goals iterate 8 refine D.one (J3 f0 f1 f7) ?_
        all_goals refine D.nil ⟨?_, ?_⟩
        all_goals iterate 2 refine D.one (J3 f0 f1 f7) ?_
        all_goals (first | (refine D.y rfl trivial rfl rfl rfl rfl fun Y Z => ?_; simp only [zz, simprocAttr, -Int.reduceNatCast', -Int.reduceToNat, f0, f1, f7]; refine PCalls.eqto (lessS_spec x y) ?_ <;> (refine Z _ _ ?_; clear Z Y)) | ((first | refine D.x rfl (fun h => by cases h) rfl rfl rfl rfl fun Y Z => ?_ | refine D.u rfl (fun h => by cases h) rfl rfl rfl rfl fun Y Z => ?_); simp only [ze, simprocAttr, -Int.reduceNatCast', -Int.reduceToNat]; refine Z _ _ ?_; clear Z Y))
        all_goals refine D.one (J3 f0 f1 f7) ?_
        all_goals refine D.nil ?_
        all_goals simp only [ze, simprocAttr, f0, f1, f7]
        all_goals exact ⟨f2, f6, _, rfl, (fun h => by cases h)⟩
    rintro s3 σ3 ⟨rfl, g0, g1, g2, g6, g7, b, g30, hbt⟩
    refine AW.cond (b := b) g30 (fun hb => AW.skip ?_) (fun hb => AW.exit ?_)
    · simp only [zs, simprocAttr]
      all_goals apply_assumption
      obtain ⟨hlj, x, y, hx, hy⟩ := hbt hb
      have hj1 : j < l2.length := (List.getElem?_eq_some_iff.1 hx).1
      have hj2 : j - 1 < l2.length := by omega
      have hg1 : (l2.map encS).getD j [] = encS x := by rw [getD_map hj1, (List.getElem?_eq_some_iff.1 hx).2]
      have hg2 : (l2.map encS).getD (j - 1) [] = encS y := by rw [getD_map hj2, (List.getElem?_eq_some_iff.1 hy).2]
      have hgs : ∀ v, ((l2.map encS).set j v).getD (j - 1) [] = encS y := fun v => by
        rw [← hg2]; simp [List.getD, List.getElem?_set, show j ≠ j - 1 by omega]
      have hw : IntKind.i64.wrap ((j : Int) - 1) = ((j - 1 : Nat) : Int) := by rw [wrap_small _ (by omega) (by omega)]; omega
      have hpb : hpZ k l2 = Hp.empty.setGr k (some ((9, 1), l2.map encS)) := rfl
      rw [hpb]
      refine AW.seq_k fun K7 h7 => ?_
      refine AW.block ?_   -- 3
      refine AW.mono (Q := thenS (fun s' σ' => σ' = hpZ k ((l2.set j y).set (j - 1) x) ∧ s'.t 0 = .gl k ∧ s'.t 1 = .c (.int .i64 lo) ∧ s'.t 2 = .c (.int .i64 hi) ∧ s'.t 6 = .c (.int .i64 (i : Nat)) ∧ s'.t 7 = .c (.int .i64 (j : Nat))) (fun _ _ _ => False)) ?_ ?_
      · skip
        refine AW.draw2 (T := { sd := fun _ => false }) (fun _ _ h => by cases h) mixedO [(0, 0), (1, 0), (2, 0), (3, 0), (4, 0), (5, 0), (6, 0), (7, 0), (8, 0), (10, 0), (11, 0), (12, 0)] 9 13 [(14, 0), (15, 2), (16, 0), (17, 2)] #[true, true, true, true, true, true, true, true, true, false, true, true, true, false, false, false, false, false] rfl (by kernel_rfl) (by kernel_rfl) (by kernel_rfl) (by kernel_rfl) (by kernel_rfl) ?_
        all_goals have q3q := J12 g0 g1 g2 g6 g7 hj1 hj2 hg1 hg2 hgs hw (J2 @encS.eq_1 @List.length_set.{0})
        all_goals iterate 12 refine D.one q3q ?_
        all_goals refine D.nil ⟨?_, ?_⟩
        all_goals iterate 6 refine D.one q3q ?_
        all_goals refine D.nil ?_
        all_goals simp only [ze, simprocAttr, q3q]
        all_goals simp [hpZ, encS, List.map_set]
      rintro e s4 σ4 hq
      cases e with
      | normal =>
        obtain ⟨rfl, q0, q1, q2, q6, q7⟩ := hq
        simp only [zs, simprocAttr]
        all_goals apply_assumption
        refine AW.reg0 (S.rn (J2 q7 hw) ?_)
        simp only [ze, simprocAttr, q7, hw]
        refine ⟨j - 1, by omega, j - 1, (l2.set j y).set (j - 1) x, rfl, by omega, q0, q1, q2, q6, rfl, rfl, (perm_swap (by omega) hx hy).trans hl2⟩
      | _ => exact hq.elim
    · simp only [zs, simprocAttr]
      all_goals apply_assumption
      have hw : IntKind.i64.wrap ((i : Int) + 1) = ((i + 1 : Nat) : Int) := by rw [wrap_small _ (by omega) (by omega)]; rfl
      refine AW.reg0 (S.rn (J2 g6 hw) ?_)
      simp only [ze, simprocAttr, g6, hw]
      refine ⟨m - 1, by omega, i + 1, l2, by omega, by omega, g0, g1, g2, rfl, rfl, hl2⟩
  · refine AW.exit ?_
    simp only [zs, simprocAttr]
    -- EXIT 0
    exact ⟨rfl, l', hl', rfl⟩
def blen2 (x : Nat) : Nat := if x = 0 then 0 else if x = 1 then 1 else 2
def tabOk2 (l : List UInt8) : Bool := (List.range 3).all fun x => decide (x < l.length) && (l.getD x 0).toNat == blen2 x
theorem tabU1 {x : Nat} (hx : x < 3) (l : List UInt8) (hl : tabOk2 l = true) : (x : Int) < ((ByteArray.mk l.toArray).size : Int) := by
 have := List.all_eq_true.1 hl x (List.mem_range.2 hx)
 simp only [Bool.and_eq_true, decide_eq_true_eq] at this
 exact Int.ofNat_lt.2 (show x < (ByteArray.mk l.toArray).size by simpa [ByteArray.size] using this.1)
theorem tabU2 {x : Nat} (hx : x < 3) (l : List UInt8) (hl : tabOk2 l = true) : (l.toArray.getD x 0).toNat = blen2 x := by
 have := List.all_eq_true.1 hl x (List.mem_range.2 hx)
 simp only [Bool.and_eq_true, beq_iff_eq] at this
 simpa [List.getD] using this.2
theorem blen2_le (x : Nat) : blen2 x ≤ 2 := by unfold blen2; repeat' split
                                               all_goals omega
theorem len64_2 (x : Nat) (hx : x < 3) : PCalls Tryz.prog 202 [.c (.int .u64 x)] (fun v => v = .c (.int .i64 (blen2 x))) := by
 refine PCalls.intro Tryz.call202 Tryz.func202 rfl Tryz.ntmps202 Tryz.results202 (by simp) ?_
 refine AW.sr trivial ?_
 refine AW.seq_k fun K2 h2 => ?_
 refine AW.sr trivial ?_
 have n1 : ¬ (4294967296 : Int) ≤ x := by omega
 have n2 : ¬ (65536 : Int) ≤ x := by omega
 have n3 : ¬ (256 : Int) ≤ x := by omega
 refine AW.cond (b := decide ((4294967296 : Int) ≤ x)) (by simp [ev]) (fun hc => absurd (of_decide_eq_true hc) n1) (fun hc => ?_)
 refine AW.skip ?_
 simp only [zs, simprocAttr]
 all_goals apply_assumption
 refine AW.seq_k fun K4 h4 => ?_
 refine AW.sr trivial ?_
 refine AW.cond (b := decide ((65536 : Int) ≤ x)) (by simp [ev]) (fun hc => absurd (of_decide_eq_true hc) n2) (fun hc => ?_)
 refine AW.skip ?_
 simp only [zs, simprocAttr]
 all_goals apply_assumption
 refine AW.seq_k fun K6 h6 => ?_
 refine AW.sr trivial ?_
 refine AW.cond (b := decide ((256 : Int) ≤ x)) (by simp [ev]) (fun hc => absurd (of_decide_eq_true hc) n3) (fun hc => ?_)
 refine AW.skip ?_
 simp only [zs, simprocAttr]
 all_goals apply_assumption
 have hwx : IntKind.u8.wrap (x : Int) = x := by unfold IntKind.wrap; simp [IntKind.signed, IntKind.bits]; omega
 have hbl := blen2_le x
 have hwb : IntKind.i64.wrap (blen2 x : Int) = blen2 x := wrap_small _ (by omega) (by omega)
 have hwn : IntKind.i64.wrap (0 + (blen2 x : Int)) = ((blen2 x : Nat) : Int) := by rw [wrap_small _ (by omega) (by omega)]; omega
 refine AW.seq_k fun K8 h8 => ?_
 refine AW.reg0 ?_
 iterate 3 refine S.one (J3 hwx hwb hwn) ?_
 have q1q := J3 hwx hwb hwn
 (refine S.g rfl rfl fun Y Z => ?_; simp only [zz, simprocAttr, -Int.reduceNatCast', -Int.reduceToNat, tt, q1q]; (first | (refine ⟨Int.ofNat_lt.1 (tabU1 hx _ (by decide +kernel)), ?_⟩; rw [tabU2 hx]; rotate_left; decide +kernel) | (refine ⟨tabU1 hx _ (by decide +kernel), ?_⟩; rw [tabU2 hx]; rotate_left; decide +kernel)) <;> (refine Z _ _ ?_; clear Z Y))
 all_goals iterate 3 refine S.one q1q ?_
 all_goals (refine S.nil ?_; simp only [ze, simprocAttr, q1q]; apply_assumption)
 refine AW.ret ?_
 all_goals simp only [zs, simprocAttr]
theorem len_2 (x : Nat) (hx : x < 3) : PCalls Tryz.prog 173 [.c (.int .u64 x)] (fun v => v = .c (.int .i64 (blen2 x))) := by
 refine PCalls.intro Tryz.call173 Tryz.func173 rfl Tryz.ntmps173 Tryz.results173 (by simp) ?_
 refine AW.sr trivial ?_
 refine AW.seq_k fun K2 h2 => ?_
 refine AW.cond (b := false) rfl (fun hc => by cases hc) (fun hc => ?_)
 refine AW.skip ?_
 all_goals simp only [zs, simprocAttr]
 all_goals apply_assumption
 refine AW.seq_k fun K3 h3 => ?_
 all_goals refine AW.reg0 ?_
 all_goals refine S.one trivial ?_
 all_goals (refine S.g rfl rfl fun Y Z => ?_; simp only [zz, simprocAttr, -Int.reduceNatCast', -Int.reduceToNat]; refine PCalls.eqto (len64_2 _ hx) ?_ <;> (refine Z _ _ ?_; clear Z Y))
 all_goals refine S.one trivial ?_
 all_goals (refine S.nil ?_; simp only [ze, simprocAttr]; apply_assumption)
 refine AW.ret ?_
 all_goals simp only [zs, simprocAttr]
theorem pdqS_spec (l : List ByteArray) (k : Nat) (lim : Int) (hn : l.length < 3) :
  ACalls Tryz.prog 181 [.gl k, .c (.int .i64 0), .c (.int .i64 (l.length : Nat)), .c (.int .i64 lim)] (hpZ k l) (fun v σ' => v = .tup [] ∧ ∃ l', l'.Perm l ∧ σ' = hpZ k l') := by
 refine ACalls.intro Tryz.call181 Tryz.func181 rfl Tryz.ntmps181 Tryz.results181 (by simp) ?_
 refine AW.sr trivial ?_
 refine AW.sr trivial ?_
 refine AW.block ?_   -- 0
 refine AW.loop (fun m s σ => s.t 0 = .gl k ∧ s.t 1 = .c (.int .i64 0) ∧ s.t 2 = .c (.int .i64 (l.length : Nat)) ∧ σ = hpZ k l) 0 ?_ ?_
 ·simp only [zs, simprocAttr]
  all_goals ((try and_intros) <;> first | rfl | assumption | (rfl))
 rintro m s σ ⟨e0, e1, e2, rfl⟩
 refine AW.block ?_   -- 1
 have hw : IntKind.i64.wrap ((l.length : Int) - 0) = ((l.length : Nat) : Int) := by rw [wrap_small _ (by omega) (by omega)]; omega
 all_goals refine AW.sr (J3 e1 e2 hw) ?_
 refine AW.seq_k fun K4 h4 => ?_
 all_goals refine AW.sr trivial ?_
 refine AW.cond (b := decide ((l.length : Int) ≤ 12)) (by simp [ev]) (fun hc => ?_) (fun hc => absurd (of_decide_eq_false hc) (by omega))
 refine AW.seq_k fun K6 h6 => ?_
 all_goals refine AW.reg0 ?_
 all_goals iterate 3 refine S.one (J3 e0 e1 e2) ?_
 all_goals (refine S.g rfl rfl fun Y Z => ?_; simp only [zz, simprocAttr, -Int.reduceNatCast', -Int.reduceToNat, e0, e1, e2]; (refine ACalls.to (insortS_spec l k 0 l.length (by omega) (by omega) (by omega)) ?_; rintro v1 σ1 ⟨rfl, l1, hl1, rfl⟩) <;> (refine Z _ _ ?_; clear Z Y))
 all_goals (refine S.nil ?_; simp only [ze, simprocAttr, e0, e1, e2]; apply_assumption)
 refine AW.ret ?_
 all_goals simp only [zs, simprocAttr]
 exact ⟨rfl, l1, hl1, rfl⟩
theorem sortS_spec (l : List ByteArray) (k : Nat) (hn : l.length < 3) :
  ACalls Tryz.prog 157 [.gl k] (hpZ k l) (fun v σ' => v = .tup [] ∧ ∃ l', l'.Perm l ∧ σ' = hpZ k l') := by
 refine ACalls.intro Tryz.call157 Tryz.func157 rfl Tryz.ntmps157 Tryz.results157 (by simp) ?_
 have hpb : (hpZ k l).gr k = some ((9, 1), l.map encS) := by simp [hpZ]
 have hwu : IntKind.u64.wrap (l.length : Int) = ((l.length : Nat) : Int) := by unfold IntKind.wrap; simp [IntKind.signed, IntKind.bits]; omega
 refine AW.sr (J2 hpb @List.length_map.{0,0}) ?_
 refine AW.reg0 ?_
 iterate 4 refine S.one hwu ?_
 (refine S.g rfl rfl fun Y Z => ?_; simp only [zz, simprocAttr, -Int.reduceNatCast', -Int.reduceToNat, hwu]; refine PCalls.eqto (len_2 l.length hn) ?_ <;> (refine Z _ _ ?_; clear Z Y))
 all_goals (refine S.g rfl rfl fun Y Z => ?_; simp only [zz, simprocAttr, -Int.reduceNatCast', -Int.reduceToNat, hwu]; (refine ACalls.to (pdqS_spec l k _ hn) ?_; rintro v1 σ1 ⟨rfl, l1, hl1, rfl⟩) <;> (refine Z _ _ ?_; clear Z Y))
 all_goals refine S.nil ?_
 all_goals simp only [ze, simprocAttr, hwu]
 exact ⟨rfl, l1, hl1, rfl⟩
theorem len_strs (l : List ByteArray) : ∀ (e : List V), e ∈ l.map encS → e.length = 1 := fun e he => by
 obtain ⟨a, _, rfl⟩ := List.mem_map.1 he; rfl
theorem encS_ext {a b : ByteArray} (h : (a.toList == b.toList) = true) : a = b := by
 exact eqS_iff.1 h
theorem compactS_spec (l : List ByteArray) (k : Nat) (hn : l.length < 3) :
  ACalls Tryz.prog 158 [.gl k] (hpZ k l) (fun v σ' => ∃ k' l', v = .gl k' ∧ (∀ x, x ∈ l' ↔ x ∈ l) ∧ l'.length ≤ l.length ∧ σ' = hpZ k' l') := by
 have ho : (hpZ k l).gr k = some ((9, 1), l.map encS) := by simp [hpZ]
 refine ACalls.intro Tryz.call158 Tryz.func158 rfl Tryz.ntmps158 Tryz.results158 (by simp) ?_
 refine AW.sr trivial ?_
 refine AW.seq_k fun K2 h2 => ?_
 refine AW.sr (J2 ho @List.length_map.{0,0}) ?_
 refine AW.cond (b := decide ((l.length : Int) < 2)) (by simp [ev]) (fun h2 => ?_) (fun h2 => ?_)
 ·refine AW.sr trivial ?_
  refine AW.ret ?_
  simp only [zs, simprocAttr]
  exact ⟨k, l, rfl, (fun x => Iff.rfl), Nat.le_refl _, rfl⟩
 have h2 : l.length = 2 := by have := of_decide_eq_false h2; omega
 obtain ⟨x, y, hxy⟩ : ∃ x y, l = [x, y] := by
  match l, h2 with | [x, y], _ => exact ⟨x, y, rfl⟩
 have hg1 : (l.map encS).getD 1 [] = encS y := by rw [hxy]; rfl
 have hg2 : (l.map encS).getD 0 [] = encS x := by rw [hxy]; rfl
 refine AW.skip ?_
 all_goals simp only [zs, simprocAttr]
 all_goals apply_assumption
 refine AW.seq_k fun K5 h5 => ?_
 all_goals refine AW.sr trivial ?_
 refine AW.block ?_   -- 0
 refine AW.loop (fun m s σ => ∃ i : Nat, m + i = 2 ∧ 1 ≤ i ∧ s.t 0 = .gl k ∧ s.t 3 = .c (.int .i64 (i : Nat)) ∧ σ = hpZ k l) 1 ?_ ?_
 ·refine ⟨1, by omega, by omega, ?_⟩
  simp only [zs, simprocAttr]
  all_goals ((try and_intros) <;> first | rfl | assumption | (rfl))
 rintro m s σ ⟨i, hm, hi1, e0, e3, rfl⟩
 refine AW.seq_k fun K7 h7 => ?_
 all_goals refine AW.sr (J5 ho e0 e3 @List.length_map.{0,0} h2) ?_
 refine AW.cond (b := decide (i < 2)) (by simp [ev]) (fun hi => ?_) (fun hi => ?_)
 ·have hi := of_decide_eq_true hi
  obtain rfl : i = 1 := by omega
  have hw : IntKind.i64.wrap (((1 : Nat) : Int) + 1) = ((2 : Nat) : Int) := by decide
  have hws : IntKind.i64.wrap (((1 : Nat) : Int) - 1) = ((0 : Nat) : Int) := by decide
  have hj1 : 1 < l.length := by omega
  have hj2 : 0 < l.length := by omega
  refine AW.skip ?_
  simp only [zs, simprocAttr]
  all_goals apply_assumption
  refine AW.seq_k fun K9 h9 => ?_
  refine AW.block ?_   -- 1
  refine AW.seq_j (fun s' σ' => σ' = hpZ k l ∧ s'.t 0 = .gl k ∧ s'.t 3 = .c (.int .i64 (1 : Nat)) ∧ s'.t 25 = .c (.bool (y.toList == x.toList))) ?_ ?_
  ·generalize hsg : hpZ k l = σ1 at ho ⊢
   refine AW.draw2 (T := { sd := fun _ => false }) (fun _ _ h => by cases h) mixedO [(0, 0), (1, 0), (2, 0), (4, 0), (5, 0), (6, 0), (7, 0)] 3 8 [(9, 0)] #[true, true, true, false, true, true, true, true, false, false] rfl (by kernel_rfl) (by kernel_rfl) (by kernel_rfl) (by kernel_rfl) (by kernel_rfl) ?_
   all_goals have q1q := J10 ho e0 e3 hj1 hj2 hg1 hg2 hws @encS.eq_1 @List.length_map.{0,0}
   all_goals iterate 7 refine D.one q1q ?_
   all_goals refine D.nil ⟨?_, ?_⟩
   all_goals iterate 3 refine D.one q1q ?_
   all_goals refine D.nil ?_
   all_goals simp only [ze, simprocAttr, q1q]
   all_goals exact ⟨e0, e3, rfl⟩
  rintro s2 σ ⟨rfl, e0, e3, e25⟩
  refine AW.cond (b := y.toList == x.toList) e25 (fun hc => ?_) (fun hc => ?_)
  ·have hyx := encS_ext hc
   have z1 : (∀ (e : List V), e ∈ l.map encS → e.length = 1) = True := eq_true (len_strs _)
   have hi2 : 1 ≤ l.length := by omega
   refine AW.sr (J9 ho e0 e3 z1 hj1 hj2 hi2 @List.length_map.{0,0} h2) ?_
   refine AW.seq_k fun K11 h11 => ?_
   refine AW.sr trivial ?_
   refine AW.block ?_   -- 2
   refine AW.loop (fun m2 s σ => s.t 0 = .gl k ∧ s.t 3 = .c (.int .i64 (1 : Nat)) ∧ s.t 4 = .gv k 1 1 ∧ s.t 5 = .c (.int .i64 (1 : Nat)) ∧ σ = hpZ k l) 0 ?_ ?_
   ·simp only [zs, simprocAttr, e0, e3]
    all_goals ((try and_intros) <;> first | rfl | assumption | (rfl))
   rintro m2 s σ ⟨e0, e3, e4, e5, rfl⟩
   refine AW.seq_k fun K13 h13 => ?_
   all_goals refine AW.sr (J2 e4 e5) ?_
   refine AW.cond (b := decide ((1 : Int) < 1)) (by simp [ev]) (fun hj => absurd hj (by decide)) (fun hj => ?_)
   refine AW.exit ?_
   all_goals simp only [zs, simprocAttr]
   all_goals apply_assumption
   have hqs : 1 + (2 - 1) ≤ l.length := by omega
   all_goals refine AW.sr (J10 ho e0 e3 z1 hj1 hj2 hi2 hqs @List.length_map.{0,0} h2) ?_
   refine AW.seq_k fun K16 h16 => ?_
   all_goals refine AW.reg0 ?_
   all_goals iterate 2 refine S.one (J2 e0 e3) ?_
   all_goals (refine S.g rfl rfl fun Y Z => ?_; simp only [zz, simprocAttr, -Int.reduceNatCast', -Int.reduceToNat, tt, e0, e3]; refine ⟨by simp; try omega, fun k1 hk1 => ?_⟩ <;> (refine Z _ _ ?_; clear Z Y))
   all_goals refine S.one (J2 e0 e3) ?_
   all_goals (refine S.nil ?_; simp only [ze, simprocAttr, e0, e3]; apply_assumption)
   refine AW.ret ?_
   all_goals simp only [zs, simprocAttr]
   subst hyx
   subst hxy
   refine ⟨k1, [y], rfl, by simp, by simp, ?_⟩
   simp [hpZ]
  ·refine AW.skip ?_
   simp only [zs, simprocAttr]
   all_goals apply_assumption
   refine AW.reg0 (S.rn (J2 e3 hw) ?_)
   simp only [ze, simprocAttr, e3, hw]
   exact ⟨m - 1, by omega, 2, by omega, by omega, e0, rfl⟩
 ·refine AW.exit ?_
  simp only [zs, simprocAttr]
  all_goals apply_assumption
  refine AW.sr e0 ?_
  refine AW.ret ?_
  simp only [zs, simprocAttr]
  exact ⟨k, l, rfl, (fun x => Iff.rfl), Nat.le_refl _, rfl⟩
theorem insortN_spec : PCalls Tryz.prog 207 [.sl [], .c (.int .i64 0), .c (.int .i64 0)] (fun v => v = .tup []) := by
 refine PCalls.intro Tryz.call207 Tryz.func207 rfl Tryz.ntmps207 Tryz.results207 (by simp) ?_
 have hw1 : IntKind.i64.wrap ((0 : Int) + 1) = 1 := by decide
 refine AW.sr hw1 ?_
 refine AW.block ?_   -- 0
 refine AW.loop (fun m s σ => s.t 2 = .c (.int .i64 0) ∧ s.t 6 = .c (.int .i64 1) ∧ σ = Hp.empty) 0 ?_ ?_
 ·simp only [zs, simprocAttr]
  all_goals ((try and_intros) <;> first | rfl | assumption | (rfl))
 rintro m s σ ⟨e2, e6, rfl⟩
 refine AW.seq_k fun K2 h2 => ?_
 all_goals refine AW.sr (J2 e2 e6) ?_
 refine AW.cond (b := decide ((1 : Int) < 0)) rfl (fun hc => absurd hc (by decide)) (fun hc => ?_)
 refine AW.exit ?_
 all_goals simp only [zs, simprocAttr]
 all_goals ((try and_intros) <;> first | rfl | assumption | (rfl))
theorem pdqN_spec (lim : Int) : PCalls Tryz.prog 181 [.sl [], .c (.int .i64 0), .c (.int .i64 0), .c (.int .i64 lim)] (fun v => v = .tup []) := by
 refine PCalls.intro Tryz.call181 Tryz.func181 rfl Tryz.ntmps181 Tryz.results181 (by simp) ?_
 refine AW.sr trivial ?_
 refine AW.sr trivial ?_
 refine AW.block ?_   -- 0
 refine AW.loop (fun m s σ => s.t 0 = .sl [] ∧ s.t 1 = .c (.int .i64 0) ∧ s.t 2 = .c (.int .i64 0) ∧ σ = Hp.empty) 0 ?_ ?_
 ·simp only [zs, simprocAttr]
  all_goals ((try and_intros) <;> first | rfl | assumption | (rfl))
 rintro m s σ ⟨e0, e1, e2, rfl⟩
 refine AW.block ?_   -- 1
 have hw : IntKind.i64.wrap ((0 : Int) - 0) = 0 := by decide
 all_goals refine AW.sr (J3 e1 e2 hw) ?_
 refine AW.seq_k fun K4 h4 => ?_
 all_goals refine AW.sr trivial ?_
 refine AW.cond (b := decide ((0 : Int) ≤ 12)) rfl (fun hc => ?_) (fun hc => absurd hc (by decide))
 refine AW.seq_k fun K6 h6 => ?_
 all_goals refine AW.reg0 ?_
 all_goals iterate 3 refine S.one (J3 e0 e1 e2) ?_
 all_goals (refine S.g rfl rfl fun Y Z => ?_; simp only [zz, simprocAttr, -Int.reduceNatCast', -Int.reduceToNat, e0, e1, e2]; refine PCalls.eqto insortN_spec ?_ <;> (refine Z _ _ ?_; clear Z Y))
 all_goals (refine S.nil ?_; simp only [ze, simprocAttr, e0, e1, e2]; apply_assumption)
 refine AW.ret ?_
 all_goals simp only [zs, simprocAttr]
 all_goals ((try and_intros) <;> first | rfl | assumption | (rfl))
theorem sortN_spec : PCalls Tryz.prog 157 [.sl []] (fun v => v = .tup []) := by
 refine PCalls.intro Tryz.call157 Tryz.func157 rfl Tryz.ntmps157 Tryz.results157 (by simp) ?_
 have hwu : IntKind.u64.wrap ((0 : Nat) : Int) = ((0 : Nat) : Int) := by decide
 refine AW.sr trivial ?_
 refine AW.reg0 ?_
 iterate 4 refine S.one hwu ?_
 (refine S.g rfl rfl fun Y Z => ?_; simp only [zz, simprocAttr, -Int.reduceNatCast', -Int.reduceToNat, hwu]; refine PCalls.eqto (len_2 0 (by omega)) ?_ <;> (refine Z _ _ ?_; clear Z Y))
 all_goals (refine S.g rfl rfl fun Y Z => ?_; simp only [zz, simprocAttr, -Int.reduceNatCast', -Int.reduceToNat, hwu]; refine PCalls.eqto (pdqN_spec _) ?_ <;> (refine Z _ _ ?_; clear Z Y))
 all_goals refine S.nil ?_
 all_goals simp only [ze, simprocAttr, hwu]
 all_goals ((try and_intros) <;> first | rfl | assumption | (rfl))
theorem compactN_spec : PCalls Tryz.prog 158 [.sl []] (fun v => v = .sl []) := by
 refine PCalls.intro Tryz.call158 Tryz.func158 rfl Tryz.ntmps158 Tryz.results158 (by simp) ?_
 refine AW.sr trivial ?_
 refine AW.seq_k fun K2 h2 => ?_
 refine AW.sr trivial ?_
 refine AW.cond (b := decide ((0 : Int) < 2)) rfl (fun h2 => ?_) (fun h2 => absurd h2 (by decide))
 refine AW.sr trivial ?_
 refine AW.ret ?_
 simp only [zs, simprocAttr]
 all_goals ((try and_intros) <;> first | rfl | assumption | (rfl))
def opdN (o : Opd) : List ByteArray := if eqS o.attr ⟨#[]⟩ then [] else [o.var]
def namesC (c : Cnd) : List ByteArray := opdN c.l ++ opdN c.r
theorem opdN_len (o : Opd) : (opdN o).length ≤ 1 := by unfold opdN; split <;> simp
def AccS (l : List ByteArray) (u : V) (σ : Hp) : Prop := (u = .c (.slice none 0 0) ∧ l = [] ∧ σ = Hp.empty) ∨ ∃ k, u = .gl k ∧ σ = hpZ k l
theorem Names_spec (c : Cnd) : PCalls Tryz.prog 115 [.agg (encC c)] (fun v => ∃ l' : List ByteArray, v = .sl (l'.map encS) ∧ l'.length < 3 ∧ ∀ x, x ∈ l' ↔ x ∈ namesC c) := by
 have hl2 : (namesC c).length < 3 := by have := opdN_len c.l; have := opdN_len c.r; simp only [namesC, List.length_append]; omega
 obtain ⟨ops, hops⟩ : ∃ o, o = [c.l, c.r] := ⟨_, rfl⟩
 have hol : ops.length = 2 := by rw [hops]; rfl
 refine PCalls.intro Tryz.call115 Tryz.func115 rfl Tryz.ntmps115 Tryz.results115 (by simp) ?_
 refine AW.seq_k fun K1 h1 => ?_
 refine AW.reg0 ?_
 iterate 2 (refine S.g rfl rfl fun Y Z => ?_; simp only [zz, reduceIte, Nat.reduceEqDiff, Nat.reduceLT, Nat.reduceLeDiff, Nat.reduceAdd, reduceCtorEq, Nat.reduceMul, tt, encC, encO]; refine Z _ _ ?_; clear Z Y)
 all_goals (refine S.nil ?_; simp only [ze, reduceIte, Nat.reduceEqDiff, Nat.reduceLT, Nat.reduceLeDiff, Nat.reduceAdd, reduceCtorEq, Nat.reduceMul, encC, encO]; apply_assumption)
 refine AW.seq_k fun K2 h2 => ?_
 all_goals refine AW.reg0 ?_
 all_goals (refine S.g rfl rfl fun Y Z => ?_; simp only [zz, reduceIte, Nat.reduceEqDiff, Nat.reduceAdd]; refine Z _ _ ?_; clear Z Y)
 all_goals (refine S.nil ?_; simp only [ze, reduceIte, Nat.reduceEqDiff, Nat.reduceLT, Nat.reduceLeDiff, Nat.reduceAdd, reduceCtorEq, Nat.reduceMul]; apply_assumption)
 refine AW.seq_k fun K3 h3 => ?_
 refine AW.seq_k fun K4 h4 => ?_
 all_goals refine AW.reg0 ?_
 all_goals iterate 4 (refine S.g rfl rfl fun Y Z => ?_; simp only [zz, reduceIte, Nat.reduceEqDiff, Nat.reduceLT, Nat.reduceLeDiff, Nat.reduceAdd, reduceCtorEq, Nat.reduceMul, tt]; refine Z _ _ ?_; clear Z Y)
 all_goals (refine S.g rfl rfl fun Y Z => ?_; simp only [zb, reduceIte, Nat.reduceEqDiff, Nat.reduceLT, Nat.reduceLeDiff, Nat.reduceAdd, reduceCtorEq, Nat.reduceMul, tt]; refine ⟨by decide, (fun e he => by simp only [List.mem_cons, List.not_mem_nil, or_false] at he; rcases he with rfl | rfl <;> rfl), ?_⟩ <;> (refine Z _ _ ?_; clear Z Y))
 all_goals iterate 2 (refine S.g rfl rfl fun Y Z => ?_; simp only [zz, reduceIte, Nat.reduceEqDiff, Nat.reduceLT, Nat.reduceLeDiff, Nat.reduceAdd, reduceCtorEq, Nat.reduceMul, tt]; refine Z _ _ ?_; clear Z Y)
 all_goals (refine S.nil ?_; simp only [ze, reduceIte, Nat.reduceEqDiff, Nat.reduceLT, Nat.reduceLeDiff, Nat.reduceAdd, reduceCtorEq, Nat.reduceMul]; apply_assumption)
 refine AW.block ?_   -- 0
 refine AW.loop (fun m s σ => ∃ i : Nat, m + i = 2 ∧ s.t 10 = .sl (ops.map encO) ∧ s.t 11 = .c (.int .i64 2) ∧ s.t 12 = .c (.int .i64 (i : Nat)) ∧ AccS ((ops.take i).flatMap opdN) (s.t 3) σ) 2 ?_ ?_
 ·refine ⟨0, by simp, ?_⟩
  simp only [zs, reduceIte, Nat.reduceEqDiff, Nat.reduceLT, Nat.reduceLeDiff, Nat.reduceAdd, reduceCtorEq, Nat.reduceMul]
  rw [hops]
  exact ⟨rfl, rfl, rfl, .inl ⟨rfl, rfl, rfl⟩⟩
 rintro m s σ ⟨i, hm, e10, e11, e12, hacc⟩
 all_goals refine AW.sr (J2 e11 e12) ?_
 refine AW.seq_k fun K6 h6 => ?_
 refine AW.cond (b := decide ((i : Int) < 2)) (by simp [ev]) (fun hi => ?_) (fun hi => ?_)
 ·have hi : i < 2 := by have := of_decide_eq_true hi; omega
  have hil : i < ops.length := by omega
  have hg : ((ops.map encO)).getD i [] = encO (ops[i]) := getD_map hil
  have hst : (ops.take (i + 1)).flatMap opdN = (ops.take i).flatMap opdN ++ opdN (ops[i]) := by
   rw [List.take_add_one, List.getElem?_eq_getElem hil, List.flatMap_append]; simp
  have hlen : ((ops.take i).flatMap opdN).length ≤ 1 := by
   have := opdN_len c.l
   have : i = 0 ∨ i = 1 := by omega
   rcases this with rfl | rfl <;> simp [hops] <;> assumption
  generalize ops[i] = o at hg hst
  generalize hL : (ops.take i).flatMap opdN = L at hst hacc hlen
  have hw := wadd1 (a := i) (by omega)
  refine AW.skip ?_
  simp only [zs, simprocAttr]
  all_goals apply_assumption
  refine AW.seq_j (fun s' σ' => s'.t 10 = .sl (ops.map encO) ∧ s'.t 11 = .c (.int .i64 2) ∧ s'.t 12 = .c (.int .i64 (i : Nat)) ∧ AccS (L ++ opdN o) (s'.t 3) σ') ?_ ?_
  ·refine AW.block ?_   -- 1
   refine AW.seq_j (fun s' σ' => s'.t 10 = .sl (ops.map encO) ∧ s'.t 11 = .c (.int .i64 2) ∧ s'.t 12 = .c (.int .i64 (i : Nat)) ∧ AccS L (s'.t 3) σ' ∧ s'.t 5 = .lp 5 0 ∧ s'.l 5 = some (encO o)) ?_ ?_
   ·rcases hacc with ⟨e3, hn, rfl⟩ | ⟨k, e3, rfl⟩
    ·skip
     have q1q := J10 e3 e10 e11 e12 hil hi hol hg @encO.eq_1 @List.length_map.{0,0}
     refine AW.reg0 (S.rn q1q ?_)
     simp only [ze, simprocAttr, q1q]
     exact .inl ⟨rfl, hn, rfl⟩
    ·skip
     have q2q := J10 e3 e10 e11 e12 hil hi hol hg @encO.eq_1 @List.length_map.{0,0}
     refine AW.reg0 (S.rn q2q ?_)
     simp only [ze, simprocAttr, q2q]
     exact .inr ⟨k, rfl, rfl⟩
   rintro s σ ⟨e10, e11, e12, hacc, e5, l5⟩
   all_goals refine AW.sr (J3 e5 l5 @encO.eq_1) ?_
   refine AW.cond (b := !(eqS o.attr ⟨#[]⟩)) (by rw [eqS, str_nil]; rfl) (fun hc => ?_) (fun hc => ?_)
   ·have hc : eqS o.attr ⟨#[]⟩ = false := by simpa using hc
    have hon : opdN o = [o.var] := by rw [opdN, hc, if_neg Bool.false_ne_true]
    rw [hon]
    have y1 : (L.length + 1 ≤ maxLen) = True := eq_true (by unfold maxLen; omega)
    have y2 : ((L.length + 1) * 16 ≤ reach) = True := eq_true (by unfold reach; omega)
    have y3 : (1 ≤ maxLen) = True := eq_true (by unfold maxLen; omega)
    have z1 : (∀ (e : List V), e ∈ [[V.c (.string o.var)]] → e.length = 1) = True := eq_true fun e he => by rw [List.mem_singleton.1 he]; rfl
    have y4 : (16 ≤ reach) = True := eq_true (by unfold reach; omega)
    rcases hacc with ⟨e3, hn, rfl⟩ | ⟨k, e3, rfl⟩
    ·rw [hn]
     refine AW.reg0 ?_
     iterate 4 (refine S.g rfl rfl fun Y Z => ?_; simp only [zb, simprocAttr, -Int.reduceNatCast', -Int.reduceToNat, tt, e3, e5, l5, encO, e10, e11, e12, z1, y3, y4]; refine Z _ _ ?_; clear Z Y)
     all_goals have q3q := J10 e3 e5 l5 @encO.eq_1 e10 e11 e12 z1 y3 y4
     all_goals (refine S.g rfl rfl fun Y Z => ?_; simp only [zz, simprocAttr, -Int.reduceNatCast', -Int.reduceToNat, tt, q3q]; intro k1 hk1 <;> (refine Z _ _ ?_; clear Z Y))
     all_goals refine S.one q3q ?_
     all_goals refine S.nil ?_
     all_goals simp only [ze, simprocAttr, q3q]
     exact .inr ⟨k1, rfl, rfl⟩
    ·unfold hpZ
     refine AW.reg0 ?_
     iterate 4 (refine S.g rfl rfl fun Y Z => ?_; simp only [zb, simprocAttr, -Int.reduceNatCast', -Int.reduceToNat, tt, e3, e5, l5, encO, e10, e11, e12, z1, y1, y2, y3, y4, List.length_map]; refine Z _ _ ?_; clear Z Y)
     all_goals have q4q := J12 e3 e5 l5 @encO.eq_1 e10 e11 e12 z1 y1 y2 y3 (J2 y4 @List.length_map.{0,0})
     all_goals (refine S.g rfl rfl fun Y Z => ?_; simp only [zz, simprocAttr, -Int.reduceNatCast', -Int.reduceToNat, tt, q4q]; intro k1 hk1 <;> (refine Z _ _ ?_; clear Z Y))
     all_goals refine S.one q4q ?_
     all_goals refine S.nil ?_
     all_goals simp only [ze, simprocAttr, q4q]
     exact .inr ⟨k1, rfl, by rw [hpZ, List.map_append]; rfl⟩
   ·have hc : eqS o.attr ⟨#[]⟩ = true := by simpa using hc
    have hon : opdN o = [] := by rw [opdN, hc, if_pos rfl]
    refine AW.skip ?_
    simp only [zs, simprocAttr]
    rw [hon, List.append_nil]
    all_goals ((try and_intros) <;> first | rfl | assumption | (exact hacc))
  rintro s2 σ2 ⟨e10, e11, e12, hacc⟩
  all_goals have q5q := J4 e10 e11 e12 hw
  all_goals refine AW.reg0 (S.rn q5q ?_)
  all_goals simp only [ze, simprocAttr, q5q]
  refine ⟨m - 1, by omega, i + 1, by omega, ?_⟩
  rw [hst]
  all_goals ((try and_intros) <;> first | rfl | assumption | (exact hacc))
 ·have hi := of_decide_eq_false hi
  obtain rfl : i = 2 := by omega
  have hfl : (ops.take 2).flatMap opdN = namesC c := by simp [namesC, hops]
  rw [hfl] at hacc
  clear hfl
  refine AW.exit ?_
  simp only [zs, simprocAttr]
  all_goals apply_assumption
  rcases hacc with ⟨e3, hn, rfl⟩ | ⟨k, e3, rfl⟩
  ·refine AW.seq_k fun K8 h8 => ?_
   refine AW.reg0 ?_
   refine S.one e3 ?_
   (refine S.g rfl rfl fun Y Z => ?_; simp only [zz, simprocAttr, -Int.reduceNatCast', -Int.reduceToNat, e3]; (first | refine PCalls.eqto sortN_spec ?_ | (refine ACalls.to (sortS_spec (namesC c) k hl2) ?_; rintro v1 σ1 ⟨rfl, l1, hl1, rfl⟩)) <;> (refine Z _ _ ?_; clear Z Y))
   all_goals (refine S.nil ?_; simp only [ze, simprocAttr, e3]; apply_assumption)
   refine AW.seq_k fun K9 h9 => ?_
   all_goals refine AW.reg0 ?_
   all_goals refine S.one e3 ?_
   all_goals (refine S.g rfl rfl fun Y Z => ?_; simp only [zz, simprocAttr, -Int.reduceNatCast', -Int.reduceToNat, e3]; (first | refine PCalls.eqto compactN_spec ?_ | (refine ACalls.to (compactS_spec l1 k hl1n) ?_; rintro v1 σ1 ⟨k2, l2, rfl, hl2m, hl2n, rfl⟩)) <;> (refine Z _ _ ?_; clear Z Y))
   all_goals refine S.one e3 ?_
   all_goals (refine S.nil ?_; simp only [ze, simprocAttr, e3]; apply_assumption)
   refine AW.ret ?_
   all_goals simp only [zs, simprocAttr]
   exact ⟨[], rfl, by simp, by rw [hn]; simp⟩
  ·refine AW.seq_k fun K10 h10 => ?_
   refine AW.reg0 ?_
   refine S.one e3 ?_
   (refine S.g rfl rfl fun Y Z => ?_; simp only [zz, simprocAttr, -Int.reduceNatCast', -Int.reduceToNat, e3]; (first | refine PCalls.eqto sortN_spec ?_ | (refine ACalls.to (sortS_spec (namesC c) k hl2) ?_; rintro v1 σ1 ⟨rfl, l1, hl1, rfl⟩)) <;> (refine Z _ _ ?_; clear Z Y))
   all_goals (refine S.nil ?_; simp only [ze, simprocAttr, e3]; apply_assumption)
   have hl1n : l1.length < 3 := by rw [hl1.length_eq]; exact hl2
   refine AW.seq_k fun K11 h11 => ?_
   all_goals refine AW.reg0 ?_
   all_goals refine S.one e3 ?_
   all_goals (refine S.g rfl rfl fun Y Z => ?_; simp only [zz, simprocAttr, -Int.reduceNatCast', -Int.reduceToNat, e3]; (first | refine PCalls.eqto compactN_spec ?_ | (refine ACalls.to (compactS_spec l1 k hl1n) ?_; rintro v1 σ1 ⟨k2, l2, rfl, hl2m, hl2n, rfl⟩)) <;> (refine Z _ _ ?_; clear Z Y))
   all_goals refine S.one e3 ?_
   all_goals (refine S.nil ?_; simp only [ze, simprocAttr, e3]; apply_assumption)
   refine AW.freeze (k := k2) (T := (9, 1)) (es := l2.map encS) (by simp only [hpZ, Hp.setGr_gr, if_true]) ?_
   have hem : (hpZ k2 l2).setGr k2 none = Hp.empty := by simp [hpZ]
   rw [hem]
   refine AW.ret ?_
   all_goals simp only [zs, simprocAttr, fzV, fz1, St.fz_t, St.fz_l]
   exact ⟨l2, rfl, by omega, fun x => (hl2m x).trans hl1.mem_iff⟩
def capZ (cells : List V) : V := .ip [cells] 0 0
theorem capZ_wk (cells : List V) : wk (capZ cells) = capZ cells := rfl
theorem capZ_ok (cells : List V) : okV (capZ cells) = true := rfl
def idxZ {α : Type} (p : α → Bool) : Nat → List α → Int
  | _, [] => -1
  | i, x :: l => if p x then (i : Int) else idxZ p (i + 1) l
theorem idxZ_any {α : Type} (p : α → Bool) : ∀ (l : List α) (i : Nat), decide (idxZ p i l ≥ 0) = l.any p
  | [], i => rfl
  | x :: l, i => by
    rw [idxZ, List.any_cons]
    cases h : p x
    · rw [if_neg Bool.false_ne_true, Bool.false_or]; exact idxZ_any p l (i + 1)
    · rw [if_pos rfl, Bool.true_or, decide_eq_true_eq]; omega
theorem idxZ_spec {c : V} {g : Nat} {p : ByteArray → Bool} (l : List ByteArray) (hl : l.length < 4611686018427387904) (hk : wk c = c) (hv : okV c = true) (hf : ∀ a, PCalls Tryz.prog g [.c (.string a), c] (fun v => v = .c (.bool (p a)))) :
  PCalls Tryz.prog 156 [.sl (l.map encS), .fn (.func g) [] [c]] (fun v => v = .c (.int .i64 (idxZ p 0 l))) := by
 refine PCalls.intro Tryz.call156 Tryz.func156 rfl Tryz.ntmps156 Tryz.results156 (by simp) ?_
 refine AW.sr trivial ?_
 refine AW.seq_k fun K2 h2 => ?_
 refine AW.sr @List.length_map.{0,0} ?_
 refine AW.block ?_   -- 0
 refine AW.loop (fun m s σ => σ = Hp.empty ∧ ∃ i : Nat, m + i = l.length ∧ s.t 0 = .sl (l.map encS) ∧ s.t 1 = .fn (.func g) [] [c] ∧ s.t 7 = .c (.int .i64 (l.length : Nat)) ∧ s.t 8 = .c (.int .i64 (i : Nat)) ∧ idxZ p 0 l = idxZ p i (l.drop i)) l.length ?_ ?_
 ·refine ⟨rfl, 0, by simp, ?_⟩
  simp only [zs, simprocAttr]
  all_goals ((try and_intros) <;> first | rfl | assumption | (rfl))
 rintro m s σ ⟨rfl, i, hm, e0, e1, e7, e8, hp⟩
 all_goals refine AW.sr (J2 e7 e8) ?_
 refine AW.seq_k fun K5 h5 => ?_
 refine AW.cond (b := decide (i < l.length)) (by simp [ev]) (fun hc => ?_) (fun hc => ?_)
 ·have hi := of_decide_eq_true hc
  obtain ⟨x, hx, hg, hd⟩ := str_get hi
  have hw := wadd1 (a := i) (by omega)
  rw [hd, idxZ] at hp
  refine AW.skip ?_
  simp only [zs, simprocAttr]
  all_goals apply_assumption
  refine AW.seq_k fun K6 h6 => ?_
  refine AW.block ?_   -- 1
  refine AW.sr e8 ?_
  refine AW.seq_k fun K8 h8 => ?_
  refine AW.reg0 ?_
  iterate 5 refine S.one (J7 e0 e1 hi hg hv hk @List.length_map.{0,0}) ?_
  have q1q := J7 e0 e1 hi hg hv hk @List.length_map.{0,0}
  (refine S.g rfl rfl fun Y Z => ?_; simp only [zz, simprocAttr, -Int.reduceNatCast', -Int.reduceToNat, q1q]; refine PCalls.eqto (hf x) ?_ <;> (refine Z _ _ ?_; clear Z Y))
  all_goals (refine S.nil ?_; simp only [ze, simprocAttr, q1q]; apply_assumption)
  refine AW.cond (b := p x) (by simp [ev]) (fun hc2 => ?_) (fun hc2 => ?_)
  ·refine AW.sr trivial ?_
   refine AW.ret ?_
   simp only [zs, simprocAttr]
   rw [hp, if_pos hc2]
  ·refine AW.skip ?_
   simp only [zs, simprocAttr]
   all_goals apply_assumption
   rw [hc2, if_neg Bool.false_ne_true] at hp
   have q2q := J5 e8 hw e0 e1 e7
   refine AW.reg0 (S.rn q2q ?_)
   simp only [ze, simprocAttr, q2q]
   refine ⟨m - 1, by omega, i + 1, by omega, ?_⟩
   all_goals ((try and_intros) <;> first | rfl | assumption | (exact hp))
 ·have hi := of_decide_eq_false hc
  refine AW.exit ?_
  simp only [zs, simprocAttr]
  all_goals apply_assumption
  rw [List.drop_of_length_le (by omega), idxZ] at hp
  refine AW.sr trivial ?_
  refine AW.ret ?_
  simp only [zs, simprocAttr]
  rw [hp]
theorem anyZ_spec {c : V} {g : Nat} {p : ByteArray → Bool} (l : List ByteArray) (hl : l.length < 4611686018427387904) (hk : wk c = c) (hv : okV c = true) (hf : ∀ a, PCalls Tryz.prog g [.c (.string a), c] (fun v => v = .c (.bool (p a)))) :
  PCalls Tryz.prog 114 [.sl (l.map encS), .fn (.func g) [] [c]] (fun v => v = .c (.bool (l.any p))) := by
 have hh := idxZ_any p l 0
 refine PCalls.intro Tryz.call114 Tryz.func114 rfl Tryz.ntmps114 Tryz.results114 (by simp) ?_
 refine AW.sr trivial ?_
 refine AW.seq_k fun K2 h2 => ?_
 refine AW.reg0 ?_
 iterate 2 refine S.one (J3 hv hk hh) ?_
 (refine S.g rfl rfl fun Y Z => ?_; simp only [zz, simprocAttr, -Int.reduceNatCast', -Int.reduceToNat, hv, hk, hh]; refine PCalls.eqto (idxZ_spec l hl hk hv hf) ?_ <;> (refine Z _ _ ?_; clear Z Y))
 all_goals iterate 2 refine S.one (J3 hv hk hh) ?_
 all_goals (refine S.nil ?_; simp only [ze, simprocAttr, hv, hk, hh]; apply_assumption)
 refine AW.ret ?_
 all_goals simp only [zs, simprocAttr]
 all_goals ((try and_intros) <;> first | rfl | assumption | (rfl))
theorem readyF_spec (vars : List ByteArray) (hl : vars.length < 4611686018427387904) (a : ByteArray) : PCalls Tryz.prog 116 [.c (.string a), capZ [.sl (vars.map encS)]] (fun v => v = .c (.bool (!hasS vars a))) := by
 refine PCalls.intro Tryz.call116 Tryz.func116 rfl Tryz.ntmps116 Tryz.results116 (by simp) ?_
 refine AW.sr @capZ.eq_1 ?_
 refine AW.seq_k fun K2 h2 => ?_
 refine AW.reg0 ?_
 iterate 2 refine S.one trivial ?_
 (refine S.g rfl rfl fun Y Z => ?_; simp only [zz, simprocAttr, -Int.reduceNatCast', -Int.reduceToNat]; refine PCalls.eqto (containsS_spec vars a hl) ?_ <;> (refine Z _ _ ?_; clear Z Y))
 all_goals iterate 2 refine S.one trivial ?_
 all_goals (refine S.nil ?_; simp only [ze, simprocAttr]; apply_assumption)
 refine AW.ret ?_
 all_goals simp only [zs, simprocAttr]
 all_goals ((try and_intros) <;> first | rfl | assumption | (rfl))
def readyC (vars : List ByteArray) (c : Cnd) : Bool := (namesC c).all (hasS vars ·)
theorem any_names {vars l : List ByteArray} {c : Cnd} (h : ∀ x, x ∈ l ↔ x ∈ namesC c) : (!(l.any fun a => !hasS vars a)) = readyC vars c := by
 rw [readyC, Bool.eq_iff_iff, List.all_eq_true, Bool.not_eq_true', List.any_eq_false]
 exact ⟨fun g x hx => by simpa using g x ((h x).2 hx), fun g x hx => by simpa using g x ((h x).1 hx)⟩
theorem Ready_spec (vars : List ByteArray) (hl : vars.length < 4611686018427387904) (c : Cnd) : PCalls Tryz.prog 74 [.agg (encC c), .sl (vars.map encS)] (fun v => v = .c (.bool (readyC vars c))) := by
 refine PCalls.intro Tryz.call74 Tryz.func74 rfl Tryz.ntmps74 Tryz.results74 (by simp) ?_
 refine AW.seq_j (fun s σ => σ = Hp.empty ∧ s.t 2 = .lp 2 0 ∧ s.l 2 = some (encC c) ∧ s.t 3 = .lp 3 0 ∧ s.l 3 = some [.sl (vars.map encS)] ∧ s.t 4 = .c (.bool false)) ?_ ?_
 ·skip
  refine AW.reg0 (S.rn trivial ?_)
  simp only [ze, simprocAttr]
  all_goals ((try and_intros) <;> first | rfl | assumption | (rfl))
 rintro s σ ⟨rfl, e2, l2, e3, l3, e4⟩
 refine AW.hushBox l3 (by simp) ?_
 have f2 : (s.bx 3 [.sl (vars.map encS)]).t 2 = .lp 2 0 := by simp [e2, bxV]
 have f3 : (s.bx 3 [.sl (vars.map encS)]).t 3 = capZ [.sl (vars.map encS)] := by simp [e3, bxV, capZ]
 have g2 : (s.bx 3 [.sl (vars.map encS)]).l 2 = some (encC c) := by simp [l2]
 generalize s.bx 3 [.sl (vars.map encS)] = s at *
 refine AW.seq_k fun K1 h1 => ?_
 all_goals refine AW.reg0 ?_
 all_goals refine S.one (J6 f2 f3 g2 @encC.eq_1 @encO.eq_1 @capZ_ok) ?_
 all_goals have q1q := J6 f2 f3 g2 @encC.eq_1 @encO.eq_1 @capZ_ok
 all_goals (refine S.g rfl rfl fun Y Z => ?_; simp only [zz, simprocAttr, -Int.reduceNatCast', -Int.reduceToNat, q1q]; (refine PCalls.to (Names_spec c) ?_; rintro v1 ⟨nl, rfl, hnl, hnm⟩) <;> (refine Z _ _ ?_; clear Z Y))
 all_goals refine S.one q1q ?_
 all_goals have q2q := J6 f2 f3 g2 @encC.eq_1 @encO.eq_1 @capZ_ok
 all_goals (refine S.g rfl rfl fun Y Z => ?_; simp only [zz, simprocAttr, -Int.reduceNatCast', -Int.reduceToNat, q2q]; refine PCalls.eqto (anyZ_spec nl (by omega) (capZ_wk _) (capZ_ok _) (readyF_spec vars hl)) ?_ <;> (refine Z _ _ ?_; clear Z Y))
 all_goals iterate 2 refine S.one q2q ?_
 all_goals (refine S.nil ?_; simp only [ze, simprocAttr, q2q]; apply_assumption)
 refine AW.ret ?_
 all_goals simp only [zs, simprocAttr]
 exact congrArg (fun b => V.c (.bool b)) (any_names hnm)
def hpC (k : Nat) (l : List Cnd) : Hp := Hp.empty.setGr k (some ((47, 11), l.map encC))
def AccC (l : List Cnd) (u : V) (σ : Hp) : Prop := (u = .c (.slice none 0 0) ∧ l = [] ∧ σ = Hp.empty) ∨ ∃ k, u = .gl k ∧ σ = hpC k l
theorem cnd_nth {l : List Cnd} {i : Nat} (h : i < l.length) : ∃ x, l[i]? = some x ∧ (l.map encC).getD i [] = encC x ∧ l.drop i = x :: l.drop (i + 1) := ⟨l[i], List.getElem?_eq_getElem h, getD_map h, List.drop_eq_getElem_cons h⟩
theorem filter_step' {α : Type} {p : α → Bool} {l : List α} {i : Nat} {x : α} (h : l[i]? = some x) : (l.take (i + 1)).filter p = (l.take i).filter p ++ if p x then [x] else [] := by
 rw [List.take_add_one, h, List.filter_append]
 congr 1
 cases hp : p x <;> simp [hp]
theorem splitF_spec (l : List Cnd) (vars : List ByteArray) (hl : l.length < 1048576) (hv : vars.length < 4611686018427387904) (b : Bool) :
  PCalls Tryz.prog 73 [.c (.bool b), capZ [.sl (l.map encC)], capZ [.sl (vars.map encS)]] (fun v => v = .sl ((l.filter fun c => readyC vars c == b).map encC)) := by
 refine PCalls.intro Tryz.call73 Tryz.func73 rfl Tryz.ntmps73 Tryz.results73 (by simp) ?_
 refine AW.sr @capZ.eq_1 ?_
 refine AW.sr trivial ?_
 refine AW.seq_k fun K3 h3 => ?_
 refine AW.sr @List.length_map.{0,0} ?_
 refine AW.block ?_   -- 0
 refine AW.loop (fun m s σ => ∃ i : Nat, m + i = l.length ∧ s.t 0 = .c (.bool b) ∧ s.t 2 = .ip [[.sl (vars.map encS)]] 0 0 ∧ s.t 8 = .sl (l.map encC) ∧ s.t 9 = .c (.int .i64 (l.length : Nat)) ∧ s.t 10 = .c (.int .i64 (i : Nat)) ∧ AccC ((l.take i).filter fun c => readyC vars c == b) (s.t 5) σ) l.length ?_ ?_
 ·refine ⟨0, by simp, ?_⟩
  simp only [zs, simprocAttr]
  all_goals ((try and_intros) <;> first | rfl | assumption | (exact .inl ⟨rfl, rfl, rfl⟩))
 rintro m s σ ⟨i, hm, e0, e2, e8, e9, e10, hacc⟩
 all_goals refine AW.sr (J2 e9 e10) ?_
 refine AW.seq_k fun K6 h6 => ?_
 refine AW.cond (b := decide (i < l.length)) (by simp [ev]) (fun hi => ?_) (fun hi => ?_)
 ·have hi := of_decide_eq_true hi
  obtain ⟨x, hx, hg, hd⟩ := cnd_nth hi
  have hw := wadd1 (a := i) (by omega)
  have hst := filter_step' (p := fun c => readyC vars c == b) hx
  have hlen : ((l.take i).filter fun c => readyC vars c == b).length ≤ i := Nat.le_trans (List.length_filter_le _ _) (by rw [List.length_take]; omega)
  generalize hL : ((l.take i).filter fun c => readyC vars c == b) = L at hst hacc hlen
  have y1 : (L.length + 1 ≤ maxLen) = True := eq_true (by unfold maxLen; omega)
  have y2 : ((L.length + 1) * 136 ≤ reach) = True := eq_true (by unfold reach; omega)
  have y3 : (1 ≤ maxLen) = True := eq_true (by unfold maxLen; omega)
  have y4 : (136 ≤ reach) = True := eq_true (by unfold reach; omega)
  have z1 : (∀ (e : List V), e ∈ [encC x] → e.length = 11) = True := eq_true fun e he => by rw [List.mem_singleton.1 he]; rfl
  simp only [encC, encO, List.cons_append, List.nil_append] at z1
  refine AW.skip ?_
  simp only [zs, simprocAttr]
  all_goals apply_assumption
  refine AW.seq_j (fun s' σ' => s'.t 0 = .c (.bool b) ∧ s'.t 2 = .ip [[.sl (vars.map encS)]] 0 0 ∧ s'.t 8 = .sl (l.map encC) ∧ s'.t 9 = .c (.int .i64 (l.length : Nat)) ∧ s'.t 10 = .c (.int .i64 (i : Nat)) ∧ AccC (L ++ if (readyC vars x == b) = true then [x] else []) (s'.t 5) σ') ?_ ?_
  ·refine AW.block ?_   -- 1
   refine AW.seq_j (fun s' σ' => s'.t 0 = .c (.bool b) ∧ s'.t 2 = .ip [[.sl (vars.map encS)]] 0 0 ∧ s'.t 8 = .sl (l.map encC) ∧ s'.t 9 = .c (.int .i64 (l.length : Nat)) ∧ s'.t 10 = .c (.int .i64 (i : Nat)) ∧ AccC L (s'.t 5) σ' ∧ s'.t 7 = .lp 7 0 ∧ s'.l 7 = some (encC x)) ?_ ?_
   ·rcases hacc with ⟨e5, hn, rfl⟩ | ⟨k, e5, rfl⟩
    ·skip
     have q1q := J11 e0 e2 e5 e8 e9 e10 hi hg @encC.eq_1 @encO.eq_1 @List.length_map.{0,0}
     refine AW.reg0 (S.rn q1q ?_)
     simp only [ze, simprocAttr, q1q]
     exact ⟨.inl ⟨rfl, hn, rfl⟩, rfl⟩
    ·skip
     have q2q := J11 e0 e2 e5 e8 e9 e10 hi hg @encC.eq_1 @encO.eq_1 @List.length_map.{0,0}
     refine AW.reg0 (S.rn q2q ?_)
     simp only [ze, simprocAttr, q2q]
     exact ⟨.inr ⟨k, rfl, rfl⟩, rfl⟩
   rintro s σ ⟨e0, e2, e8, e9, e10, hacc, e7, l7⟩
   simp only [encC, encO, List.cons_append, List.nil_append] at l7
   refine AW.seq_k fun K7 h7 => ?_
   all_goals refine AW.reg0 ?_
   all_goals iterate 2 refine S.one (J6 e0 e2 e7 l7 @encC.eq_1 @encO.eq_1) ?_
   all_goals have q3q := J6 e0 e2 e7 l7 @encC.eq_1 @encO.eq_1
   all_goals (refine S.g rfl rfl fun Y Z => ?_; simp only [zz, simprocAttr, -Int.reduceNatCast', -Int.reduceToNat, q3q]; refine PCalls.eqto (Ready_spec vars hv x) ?_ <;> (refine Z _ _ ?_; clear Z Y))
   all_goals iterate 2 refine S.one q3q ?_
   all_goals (refine S.nil ?_; simp only [ze, simprocAttr, q3q]; apply_assumption)
   refine AW.cond (b := readyC vars x == b) (by simp [ev]) (fun hc => ?_) (fun hc => ?_)
   ·rw [hc, if_pos rfl]
    rcases hacc with ⟨e5, hn, rfl⟩ | ⟨k, e5, rfl⟩
    ·rw [hn]
     refine AW.reg0 ?_
     iterate 3 (refine S.g rfl rfl fun Y Z => ?_; simp only [zb, simprocAttr, -Int.reduceNatCast', -Int.reduceToNat, tt, e0, e2, e5, e7, l7, e8, e9, e10, encC, encO, z1, y1, y2, y3, y4]; refine Z _ _ ?_; clear Z Y)
     all_goals have q4q := J12 e0 e2 e5 e7 l7 e8 e9 e10 @encC.eq_1 @encO.eq_1 z1 (J4 y1 y2 y3 y4)
     all_goals (refine S.g rfl rfl fun Y Z => ?_; simp only [zz, simprocAttr, -Int.reduceNatCast', -Int.reduceToNat, tt, q4q]; intro k1 hk1 <;> (refine Z _ _ ?_; clear Z Y))
     all_goals refine S.one q4q ?_
     all_goals refine S.nil ?_
     all_goals simp only [ze, simprocAttr, q4q]
     all_goals exact .inr ⟨k1, rfl, rfl⟩
    ·unfold hpC
     refine AW.reg0 ?_
     iterate 3 (refine S.g rfl rfl fun Y Z => ?_; simp only [zb, simprocAttr, -Int.reduceNatCast', -Int.reduceToNat, tt, e0, e2, e5, e7, l7, e8, e9, e10, encC, encO, z1, y1, y2, y3, y4, List.length_map]; refine Z _ _ ?_; clear Z Y)
     all_goals have q5q := J12 e0 e2 e5 e7 l7 e8 e9 e10 @encC.eq_1 @encO.eq_1 z1 (J5 y1 y2 y3 y4 @List.length_map.{0,0})
     all_goals (refine S.g rfl rfl fun Y Z => ?_; simp only [zz, simprocAttr, -Int.reduceNatCast', -Int.reduceToNat, tt, q5q]; intro k1 hk1 <;> (refine Z _ _ ?_; clear Z Y))
     all_goals refine S.one q5q ?_
     all_goals refine S.nil ?_
     all_goals simp only [ze, simprocAttr, q5q]
     all_goals exact .inr ⟨k1, rfl, by rw [hpC, List.map_append]; rfl⟩
   ·rw [hc, if_neg Bool.false_ne_true, List.append_nil]
    refine AW.skip ?_
    simp only [zs, simprocAttr, e0, e2, e8, e9, e10]
    all_goals ((try and_intros) <;> first | rfl | assumption | (exact hacc))
  rintro s σ ⟨e0, e2, e8, e9, e10, hacc⟩
  all_goals have q6q := J6 e10 hw e0 e2 e8 e9
  all_goals refine AW.reg0 (S.rn q6q ?_)
  all_goals simp only [ze, simprocAttr, q6q]
  refine ⟨m - 1, by omega, i + 1, by omega, ?_⟩
  rw [hst]
  all_goals ((try and_intros) <;> first | rfl | assumption | (exact hacc))
 ·have hi := of_decide_eq_false hi
  refine AW.exit ?_
  simp only [zs, simprocAttr]
  all_goals apply_assumption
  rw [List.take_of_length_le (by omega)] at hacc
  rcases hacc with ⟨e5, hn, rfl⟩ | ⟨k, e5, rfl⟩
  ·refine AW.sr e5 ?_
   refine AW.ret ?_
   simp only [zs, simprocAttr]
   all_goals ((try and_intros) <;> first | rfl | assumption | (((rw [hn]) <;> rfl)))
  ·refine AW.freeze (k := k) (T := (47, 11)) (es := (l.filter fun c => readyC vars c == b).map encC) (by simp only [hpC, Hp.setGr_gr, if_true]) ?_
   have hem : (hpC k (l.filter fun c => readyC vars c == b)).setGr k none = Hp.empty := by simp [hpC]
   rw [hem]
   refine AW.sr (J10 @St.fz_t @St.fz_l @fzV.eq_1 @fzV.eq_2 @fz1.eq_1 @fz1.eq_2 @Option.map_some.{0,0} @List.map.eq_1.{0,0} @List.map.eq_2.{0,0} e5) ?_
   refine AW.ret ?_
   simp only [zs, simprocAttr]
   all_goals ((try and_intros) <;> first | rfl | assumption | (rfl))
theorem Split_spec (l : List Cnd) (vars : List ByteArray) (hl : l.length < 1048576) (hv : vars.length < 4611686018427387904) :
  PCalls Tryz.prog 36 [.sl (l.map encC), .sl (vars.map encS)] (fun v => v = .tup [.sl ((l.filter (readyC vars)).map encC), .sl ((l.filter fun c => !readyC vars c).map encC)]) := by
 have hq1 : (l.filter fun c => readyC vars c == true) = l.filter (readyC vars) := by congr 1; funext c; simp
 have hq2 : (l.filter fun c => readyC vars c == false) = l.filter fun c => !readyC vars c := by congr 1; funext c; cases readyC vars c <;> rfl
 refine PCalls.intro Tryz.call36 Tryz.func36 rfl Tryz.ntmps36 Tryz.results36 (by simp) ?_
 refine AW.seq_j (fun s σ => σ = Hp.empty ∧ s.t 2 = .lp 2 0 ∧ s.l 2 = some [.sl (l.map encC)] ∧ s.t 3 = .lp 3 0 ∧ s.l 3 = some [.sl (vars.map encS)]) ?_ ?_
 ·skip
  refine AW.reg0 (S.rn trivial ?_)
  simp only [ze, simprocAttr]
  all_goals ((try and_intros) <;> first | rfl | assumption | (rfl))
 rintro s σ ⟨rfl, e2, l2, e3, l3⟩
 refine AW.hushBox l2 (by simp) ?_
 have f2 : (s.bx 2 [.sl (l.map encC)]).t 2 = capZ [.sl (l.map encC)] := by simp [e2, bxV, capZ]
 have f3 : (s.bx 2 [.sl (l.map encC)]).t 3 = .lp 3 0 := by simp [e3, bxV]
 have g3 : (s.bx 2 [.sl (l.map encC)]).l 3 = some [.sl (vars.map encS)] := by simp [l3]
 generalize s.bx 2 [.sl (l.map encC)] = s at *
 refine AW.hushBox g3 (by simp) ?_
 have f2' : (s.bx 3 [.sl (vars.map encS)]).t 2 = capZ [.sl (l.map encC)] := by simp [f2, bxV, capZ]
 have f3' : (s.bx 3 [.sl (vars.map encS)]).t 3 = capZ [.sl (vars.map encS)] := by simp [f3, bxV, capZ]
 generalize s.bx 3 [.sl (vars.map encS)] = s at *
 all_goals have q1q := J3 f2' f3' @capZ_ok
 all_goals refine AW.sr q1q ?_
 refine AW.seq_k fun K2 h2 => ?_
 all_goals refine AW.reg0 ?_
 all_goals refine S.one q1q ?_
 all_goals have q2q := J3 f2' f3' @capZ_ok
 all_goals (refine S.g rfl rfl fun Y Z => ?_; simp only [zz, simprocAttr, -Int.reduceNatCast', -Int.reduceToNat, q2q]; refine PCalls.eqto (splitF_spec l vars hl hv true) ?_ <;> (refine Z _ _ ?_; clear Z Y))
 all_goals refine S.one q2q ?_
 all_goals have q3q := J3 f2' f3' @capZ_ok
 all_goals (refine S.g rfl rfl fun Y Z => ?_; simp only [zz, simprocAttr, -Int.reduceNatCast', -Int.reduceToNat, q3q]; refine PCalls.eqto (splitF_spec l vars hl hv false) ?_ <;> (refine Z _ _ ?_; clear Z Y))
 all_goals iterate 2 refine S.one q3q ?_
 all_goals (refine S.nil ?_; simp only [ze, simprocAttr, q3q]; apply_assumption)
 refine AW.ret ?_
 all_goals simp only [zs, simprocAttr]
 all_goals ((try and_intros) <;> first | rfl | assumption | (((rw [hq1, hq2]) <;> rfl)))
theorem len_cs (l : List Cnd) : ∀ (e : List V), e ∈ l.map encC → e.length = 11 := fun e he => by
 obtain ⟨a, _, rfl⟩ := List.mem_map.1 he; rfl
theorem len_nds (l : List Nd) : ∀ (e : List V), e ∈ l.map encNd → e.length = 5 := fun e he => by
 obtain ⟨a, _, rfl⟩ := List.mem_map.1 he; exact encNd_len a
theorem cloneC_spec (l : List Cnd) (hl : l.length < 1048576) : PCalls Tryz.prog 44 [.sl (l.map encC)] (fun v => v = .sl (l.map encC)) := by
 refine PCalls.intro Tryz.call44 Tryz.func44 rfl Tryz.ntmps44 Tryz.results44 (by simp) ?_
 refine AW.sr trivial ?_
 refine AW.seq_j (fun s' σ' => σ' = Hp.empty ∧ s'.t 0 = .sl (l.map encC)) ?_ ?_
 ·refine AW.seq_j (fun s' σ' => σ' = Hp.empty ∧ s'.t 0 = .sl (l.map encC) ∧ ∃ b, s'.t 4 = .c (.bool b) ∧ (b = true → l = [])) ?_ ?_
  ·skip
   refine AW.reg0 ?_
   refine S.one trivial ?_
   (refine S.g rfl rfl fun Y Z => ?_; simp only [zz, simprocAttr, -Int.reduceNatCast', -Int.reduceToNat, tt]; refine ⟨fun hne => ?_, fun hz b => ?_⟩ <;> (refine Z _ _ ?_; clear Z Y))
   all_goals refine S.nil ?_
   all_goals simp only [ze, simprocAttr]
   ·exact ⟨_, rfl, fun h => by cases h⟩
   ·exact ⟨_, rfl, fun _ => hz⟩
  rintro s σ ⟨rfl, e0, b, e4, hb⟩
  refine AW.cond (b := b) e4 (fun hc => ?_) (fun hc => AW.skip ?_)
  ·refine AW.sr trivial ?_
   refine AW.ret ?_
   simp only [zs, simprocAttr]
   all_goals ((try and_intros) <;> first | rfl | assumption | (((rw [hb hc]) <;> rfl)))
  ·simp only [zs, simprocAttr]
   exact e0
 rintro s σ ⟨rfl, e0⟩
 refine AW.seq_k fun K3 h3 => ?_
 all_goals refine AW.region (T := { own := fun d => d == 5 }) (fun _ _ h => by cases h) rfl ?_
 all_goals (refine S.g rfl rfl fun Y Z => ?_; simp only [zb, simprocAttr, -Int.reduceNatCast', -Int.reduceToNat, tt, e0]; intro k1 hk1 <;> (refine Z _ _ ?_; clear Z Y))
 all_goals refine S.one e0 ?_
 all_goals (refine S.g rfl rfl fun Y Z => ?_; simp only [zz, simprocAttr, -Int.reduceNatCast', -Int.reduceToNat, tt, e0]; refine ⟨len_cs l, by unfold maxLen; omega, by unfold reach; omega, fun k2 hk2 => ?_⟩ <;> (refine Z _ _ ?_; clear Z Y))
 all_goals refine S.one e0 ?_
 all_goals (refine S.nil ?_; simp only [ze, simprocAttr, e0]; apply_assumption)
 refine AW.freeze (k := k2) (T := (47, 11)) (es := l.map encC) (by simp) (AW.bare (AW.ret ?_))
 all_goals simp only [zs, simprocAttr, fzV, fz1, St.fz_t, St.fz_l]
 all_goals ((try and_intros) <;> first | rfl | assumption | (rfl))
def hpK (k : Nat) (l : List Nd) : Hp := Hp.empty.setGr k (some ((25, 5), l.map encNd))
theorem cloneK_spec (l : List Nd) (hl : l.length < 1048576) : ACalls Tryz.prog 113 [.sl (l.map encNd)] Hp.empty (fun v σ' => (v = .sl [] ∧ l = [] ∧ σ' = Hp.empty) ∨ ∃ k, v = .gl k ∧ σ' = hpK k l) := by
 refine ACalls.intro Tryz.call113 Tryz.func113 rfl Tryz.ntmps113 Tryz.results113 (by simp) ?_
 refine AW.sr trivial ?_
 refine AW.seq_j (fun s' σ' => σ' = Hp.empty ∧ s'.t 0 = .sl (l.map encNd)) ?_ ?_
 ·refine AW.seq_j (fun s' σ' => σ' = Hp.empty ∧ s'.t 0 = .sl (l.map encNd) ∧ ∃ b, s'.t 4 = .c (.bool b) ∧ (b = true → l = [])) ?_ ?_
  ·skip
   refine AW.reg0 ?_
   refine S.one trivial ?_
   (refine S.g rfl rfl fun Y Z => ?_; simp only [zz, simprocAttr, -Int.reduceNatCast', -Int.reduceToNat, tt]; refine ⟨fun hne => ?_, fun hz b => ?_⟩ <;> (refine Z _ _ ?_; clear Z Y))
   all_goals refine S.nil ?_
   all_goals simp only [ze, simprocAttr]
   ·exact ⟨_, rfl, fun h => by cases h⟩
   ·exact ⟨_, rfl, fun _ => hz⟩
  rintro s σ ⟨rfl, e0, b, e4, hb⟩
  refine AW.cond (b := b) e4 (fun hc => ?_) (fun hc => AW.skip ?_)
  ·refine AW.sr trivial ?_
   refine AW.ret ?_
   simp only [zs, simprocAttr]
   exact .inl (hb hc)
  ·simp only [zs, simprocAttr]
   exact e0
 rintro s σ ⟨rfl, e0⟩
 refine AW.seq_k fun K3 h3 => ?_
 all_goals refine AW.region (T := { own := fun d => d == 5 }) (fun _ _ h => by cases h) rfl ?_
 all_goals (refine S.g rfl rfl fun Y Z => ?_; simp only [zb, simprocAttr, -Int.reduceNatCast', -Int.reduceToNat, tt, e0]; intro k1 hk1 <;> (refine Z _ _ ?_; clear Z Y))
 all_goals refine S.one e0 ?_
 all_goals (refine S.g rfl rfl fun Y Z => ?_; simp only [zz, simprocAttr, -Int.reduceNatCast', -Int.reduceToNat, tt, e0]; refine ⟨len_nds l, by unfold maxLen; omega, by unfold reach; omega, fun k2 hk2 => ?_⟩ <;> (refine Z _ _ ?_; clear Z Y))
 all_goals refine S.one e0 ?_
 all_goals (refine S.nil ?_; simp only [ze, simprocAttr, e0]; apply_assumption)
 refine AW.ret ?_
 all_goals simp only [zs, simprocAttr]
 exact .inr ⟨k2, rfl, by simp [hpK]⟩
def Nd.fewT (n : Nd) : Prop := n.para fun n l => n.tests.length < 1048576 ∧ ∀ p ∈ l, p
theorem Nd.fewT_eq (n : Nd) : n.fewT = (n.tests.length < 1048576 ∧ ∀ p ∈ n.kids.map Nd.fewT, p) := Nd.para_eq _ n
theorem Nd.fewT.own {n : Nd} (h : n.fewT) : n.tests.length < 1048576 := by rw [Nd.fewT_eq] at h; exact h.1
theorem Nd.fewT.kid {n x : Nd} (h : n.fewT) (hx : x ∈ n.kids) : x.fewT := by rw [Nd.fewT_eq] at h; exact h.2 _ (List.mem_map_of_mem hx)
def KidH (n : Nd) (u : V) (σ : Hp) : Prop := (u = .sl [] ∧ n.kids = [] ∧ σ = Hp.empty) ∨ ∃ k, u = .gl k ∧ σ = hpK k n.kids
theorem cloneNode_spec : ∀ n : Nd, n.small → n.fewT → PCalls Tryz.prog 72 [.agg (encNd n)] (fun v => v = .agg (encNd n)) := Nd.ind fun n ih hn hf => by
 have ht := hf.own
 have hE := (encNd_eq n).symm
 rw [encNd_eq]
 refine PCalls.intro Tryz.call72 Tryz.func72 rfl Tryz.ntmps72 Tryz.results72 (by simp) ?_
 refine AW.sr trivial ?_
 refine AW.seq_j (fun s' σ' => s'.t 1 = .lp 1 0 ∧ s'.t 2 = .lp 2 0 ∧ (∃ z, s'.l 2 = some z ∧ z.length = 5) ∧ ∃ u, s'.l 1 = some [.c (.int .i64 n.kind), .c (.string n.var), .c (.string n.type), .sl (n.tests.map encC), u] ∧ KidH n u σ') ?_ ?_
 ·skip
  refine AW.dT { sd := fun _ => false } (.st 0 0 (.st 3 0 (.fork 1 (.fork 2 (.st 4 2 (.st 6 0 (.st 5 2 (.st 7 2 (.st 8 0 (.st 9 2 .nil)))))) 4 (.st 2 2 (.st 6 0 (.st 5 2 (.st 7 2 (.st 8 0 (.st 9 2 .nil))))))) 4 (.st 1 2 (.st 2 2 (.st 6 0 (.st 5 2 (.st 7 2 (.st 8 0 (.st 9 2 .nil)))))))))) ?_
  all_goals iterate 2 refine T.onf (J3 @Bool.or_self @kill.eq_1 @kill.eq_2) ?_
  all_goals (try refine T.fork ?_ ?_)
  all_goals have q1q := J3 @Bool.or_self @kill.eq_1 @kill.eq_2
  all_goals first | (refine T.g rfl trivial rfl rfl fun Y Z => ?_; simp only [zz, simprocAttr, -Int.reduceNatCast', -Int.reduceToNat, tt, q1q]; refine Z _ _ ?_; clear Z Y) | (refine T.g rfl trivial rfl rfl fun Y Z => ?_; simp only [zz, simprocAttr, -Int.reduceNatCast', -Int.reduceToNat, tt, q1q]; refine Z _ _ ?_; clear Z Y)
  all_goals (try refine T.fork ?_ ?_)
  all_goals have q2q := J3 @Bool.or_self @kill.eq_1 @kill.eq_2
  all_goals first | (refine T.g rfl trivial rfl rfl fun Y Z => ?_; simp only [zz, simprocAttr, -Int.reduceNatCast', -Int.reduceToNat, q2q]; refine PCalls.eqto (cloneC_spec n.tests ht) ?_ <;> (refine Z _ _ ?_; clear Z Y)) | (refine T.g rfl trivial rfl rfl fun Y Z => ?_; simp only [zz, simprocAttr, -Int.reduceNatCast', -Int.reduceToNat, tt, q2q]; refine Z _ _ ?_; clear Z Y) | (refine T.g rfl trivial rfl rfl fun Y Z => ?_; simp only [zz, simprocAttr, -Int.reduceNatCast', -Int.reduceToNat, tt, q2q]; refine Z _ _ ?_; clear Z Y)
  all_goals have q3q := J3 @Bool.or_self @kill.eq_1 @kill.eq_2
  all_goals first | (refine T.g rfl trivial rfl rfl fun Y Z => ?_; simp only [zz, simprocAttr, -Int.reduceNatCast', -Int.reduceToNat, q3q]; refine PCalls.eqto (cloneC_spec n.tests ht) ?_ <;> (refine Z _ _ ?_; clear Z Y)) | (refine T.g rfl trivial rfl rfl fun Y Z => ?_; simp only [zz, simprocAttr, -Int.reduceNatCast', -Int.reduceToNat, tt, q3q]; refine Z _ _ ?_; clear Z Y)
  all_goals refine T.onf q3q ?_
  all_goals have q4q := J3 @Bool.or_self @kill.eq_1 @kill.eq_2
  all_goals (refine T.g rfl trivial rfl rfl fun Y Z => ?_; simp only [zz, simprocAttr, -Int.reduceNatCast', -Int.reduceToNat, q4q]; (refine ACalls.to (cloneK_spec n.kids hn.len) ?_; rintro v1 σ1 (⟨rfl, hk0, rfl⟩ | ⟨k, rfl, rfl⟩)) <;> (refine Z _ _ ?_; clear Z Y))
  all_goals iterate 3 refine T.onf q4q ?_
  all_goals refine T.nil ?_
  all_goals simp only [ze, simprocAttr, q4q]
  all_goals first | exact ⟨⟨_, rfl, rfl⟩, _, rfl, .inl ⟨rfl, hk0, rfl⟩⟩ | exact ⟨⟨_, rfl, rfl⟩, _, rfl, .inr ⟨k, rfl, rfl⟩⟩
 rintro s σ ⟨e1, e2, ⟨z, l2, hz5⟩, u, l1, hu⟩
 have hlen := hn.len
 refine AW.seq_j (fun s' σ' => σ' = σ ∧ s'.t 1 = .lp 1 0 ∧ s'.t 2 = .lp 2 0 ∧ s'.l 2 = some z ∧ s'.l 1 = some [.c (.int .i64 n.kind), .c (.string n.var), .c (.string n.type), .sl (n.tests.map encC), u]) ?_ ?_
 ·refine AW.seq_j (fun s' σ' => σ' = σ ∧ s'.t 1 = .lp 1 0 ∧ s'.t 2 = .lp 2 0 ∧ s'.l 2 = some z ∧ s'.l 1 = some [.c (.int .i64 n.kind), .c (.string n.var), .c (.string n.type), .sl (n.tests.map encC), u] ∧ s'.t 14 = u ∧ s'.t 15 = .c (.int .i64 (n.kids.length : Nat)) ∧ s'.t 16 = .c (.int .i64 (0 : Nat))) ?_ ?_
  ·rcases hu with ⟨rfl, hk0, rfl⟩ | ⟨k, rfl, rfl⟩
   ·skip
    have q5q := J4 e1 e2 l1 l2
    refine AW.reg0 (S.rn q5q ?_)
    simp only [ze, simprocAttr, q5q]
    all_goals ((try and_intros) <;> first | rfl | assumption | ((rw [hk0]; rfl)))
   ·have hgr : (hpK k n.kids).gr k = some ((25, 5), n.kids.map encNd) := by simp [hpK]
    have q6q := J6 e1 e2 l1 l2 hgr @List.length_map.{0,0}
    refine AW.reg0 (S.rn q6q ?_)
    simp only [ze, simprocAttr, q6q]
    all_goals ((try and_intros) <;> first | rfl | assumption | (rfl))
  clear e1 e2 l1 l2 s
  rintro s σ1 ⟨hs1, e1, e2, l2, l1, e14, e15, e16⟩
  have hs1 := hs1.symm
  subst hs1
  refine AW.block ?_   -- 0
  refine AW.loop (fun m s σ' => σ' = σ ∧ ∃ i : Nat, m + i = n.kids.length ∧ s.t 1 = .lp 1 0 ∧ s.t 2 = .lp 2 0 ∧ s.l 2 = some z ∧ s.l 1 = some [.c (.int .i64 n.kind), .c (.string n.var), .c (.string n.type), .sl (n.tests.map encC), u] ∧ s.t 14 = u ∧ s.t 15 = .c (.int .i64 (n.kids.length : Nat)) ∧ s.t 16 = .c (.int .i64 (i : Nat))) n.kids.length ?_ ?_
  ·exact ⟨rfl, 0, by simp, e1, e2, l2, l1, e14, e15, e16⟩
  clear e1 e2 l1 l2 e14 e15 e16 s
  rintro m s σ1 ⟨hs1, i, hm, e1, e2, l2, l1, e14, e15, e16⟩
  have hs1 := hs1.symm
  subst hs1
  all_goals refine AW.sr (J2 e15 e16) ?_
  refine AW.seq_k fun K3 h3 => ?_
  refine AW.cond (b := decide (i < n.kids.length)) (by simp [ev]) (fun hi => ?_) (fun hi => ?_)
  ·have hi := of_decide_eq_true hi
   have hw := wadd1 (a := i) (by omega)
   rcases hu with ⟨rfl, hk0, rfl⟩ | ⟨k, rfl, rfl⟩
   ·rw [hk0] at hi; simp at hi
   have hgr : (hpK k n.kids).gr k = some ((25, 5), n.kids.map encNd) := by simp [hpK]
   have hx : n.kids[i]? = some n.kids[i] := List.getElem?_eq_getElem hi
   have hxm : n.kids[i] ∈ n.kids := List.getElem_mem hi
   have hg : (n.kids.map encNd).getD i [] = encNd n.kids[i] := getD_map hi
   have hset : (n.kids.map encNd).set i (encNd n.kids[i]) = n.kids.map encNd := by rw [← List.map_set, List.set_getElem_self]
   generalize n.kids[i] = x at hx hxm hg hset
   have hxs := hn.kid hxm
   have hxf := hf.kid hxm
   refine AW.skip ?_
   all_goals simp only [zs, simprocAttr]
   all_goals apply_assumption
   refine AW.seq_j (fun s' σ' => σ' = hpK k n.kids ∧ s'.t 1 = .lp 1 0 ∧ s'.t 2 = .lp 2 0 ∧ s'.l 2 = some z ∧ s'.l 1 = some [.c (.int .i64 n.kind), .c (.string n.var), .c (.string n.type), .sl (n.tests.map encC), .gl k] ∧ s'.t 14 = .gl k ∧ s'.t 15 = .c (.int .i64 (n.kids.length : Nat)) ∧ s'.t 16 = .c (.int .i64 (i : Nat))) ?_ ?_
   ·refine AW.block ?_   -- 1
    refine AW.seq_j (fun s' σ' => σ' = hpK k n.kids ∧ s'.t 1 = .lp 1 0 ∧ s'.t 2 = .lp 2 0 ∧ s'.l 2 = some z ∧ s'.l 1 = some [.c (.int .i64 n.kind), .c (.string n.var), .c (.string n.type), .sl (n.tests.map encC), .gl k] ∧ s'.t 14 = .gl k ∧ s'.t 15 = .c (.int .i64 (n.kids.length : Nat)) ∧ s'.t 16 = .c (.int .i64 (i : Nat)) ∧ s'.t 3 = .c (.int .i64 (i : Nat)) ∧ s'.t 4 = .lp 4 0 ∧ s'.l 4 = some (encNd x)) ?_ ?_
    ·generalize hsg : hpK k n.kids = σ5 at hgr ⊢
     have q7q := J12 e1 e2 l1 l2 e14 e15 e16 hgr hi hg @nd @List.length_map.{0,0}
     refine AW.reg0 (S.rn q7q ?_)
     simp only [ze, simprocAttr, q7q]
     all_goals ((try and_intros) <;> first | rfl | assumption | (rfl))
    clear e1 e2 l1 l2 e14 e15 e16 s
    rintro s σ1 ⟨hs1, e1, e2, l2, l1, e14, e15, e16, e3, e4, l4⟩
    subst hs1
    unfold hpK at hgr ⊢
    all_goals refine AW.dT { sd := fun _ => false } (.st 0 0 (.st 2 0 (.fork 1 (.st 3 2 (.st 4 2 (.st 5 0 (.st 6 2 .nil)))) 3 (.fork 1 (.st 4 2 (.st 5 0 (.st 6 2 .nil))) 4 (.st 1 2 (.st 5 0 (.st 6 2 .nil))))))) ?_
    all_goals iterate 2 refine T.onf (J12 @Bool.or_self @kill.eq_1 @kill.eq_2 e1 e2 l1 l2 e3 e4 l4 e14 (J8 e15 e16 hgr hi hg hset @nd @List.length_map.{0,0})) ?_
    all_goals (try refine T.fork ?_ ?_)
    all_goals have q8q := J12 @Bool.or_self @kill.eq_1 @kill.eq_2 e1 e2 l1 l2 e3 e4 l4 e14 (J8 e15 e16 hgr hi hg hset @nd @List.length_map.{0,0})
    all_goals first | (refine T.g rfl trivial rfl rfl fun Y Z => ?_; simp only [zz, simprocAttr, -Int.reduceNatCast', -Int.reduceToNat, tt, q8q]; refine Z _ _ ?_; clear Z Y) | (refine T.g rfl trivial rfl rfl fun Y Z => ?_; simp only [zz, simprocAttr, -Int.reduceNatCast', -Int.reduceToNat, tt, q8q]; refine Z _ _ ?_; clear Z Y)
    all_goals (try refine T.fork ?_ ?_)
    all_goals have q9q := J12 @Bool.or_self @kill.eq_1 @kill.eq_2 e1 e2 l1 l2 e3 e4 l4 e14 (J8 e15 e16 hgr hi hg hset @nd @List.length_map.{0,0})
    all_goals first | (refine T.g rfl trivial rfl rfl fun Y Z => ?_; simp only [zz, simprocAttr, -Int.reduceNatCast', -Int.reduceToNat, q9q]; refine PCalls.eqto (ih x hxm hxs hxf) ?_ <;> (refine Z _ _ ?_; clear Z Y)) | (refine T.g rfl trivial rfl rfl fun Y Z => ?_; simp only [zz, simprocAttr, -Int.reduceNatCast', -Int.reduceToNat, tt, q9q]; refine Z _ _ ?_; clear Z Y) | (refine T.g rfl trivial rfl rfl fun Y Z => ?_; simp only [zz, simprocAttr, -Int.reduceNatCast', -Int.reduceToNat, tt, q9q]; refine Z _ _ ?_; clear Z Y)
    all_goals have q10q := J12 @Bool.or_self @kill.eq_1 @kill.eq_2 e1 e2 l1 l2 e3 e4 l4 e14 (J8 e15 e16 hgr hi hg hset @nd @List.length_map.{0,0})
    all_goals first | (refine T.g rfl trivial rfl rfl fun Y Z => ?_; simp only [zz, simprocAttr, -Int.reduceNatCast', -Int.reduceToNat, q10q]; refine PCalls.eqto (ih x hxm hxs hxf) ?_ <;> (refine Z _ _ ?_; clear Z Y)) | (refine T.g rfl trivial rfl rfl fun Y Z => ?_; simp only [zz, simprocAttr, -Int.reduceNatCast', -Int.reduceToNat, tt, q10q]; refine Z _ _ ?_; clear Z Y)
    all_goals iterate 2 refine T.onf q10q ?_
    all_goals refine T.nil ?_
    all_goals simp only [ze, simprocAttr, q10q]
    all_goals ((try and_intros) <;> first | rfl | assumption | (rfl))
   clear e1 e2 l1 l2 e14 e15 e16 s
   rintro s σ1 ⟨hs1, e1, e2, l2, l1, e14, e15, e16⟩
   subst hs1
   all_goals have q11q := J8 e1 e2 l1 l2 e14 e15 e16 hw
   all_goals refine AW.reg0 (S.rn q11q ?_)
   all_goals simp only [ze, simprocAttr, q11q]
   refine ⟨m - 1, by omega, i + 1, by omega, ?_⟩
   all_goals ((try and_intros) <;> first | rfl | assumption | (rfl))
  ·refine AW.exit ?_
   simp only [zs, simprocAttr]
   exact ⟨e1, e2, l2, l1⟩
 clear e1 e2 l1 l2 s
 rintro s σ1 ⟨hs1, e1, e2, l2, l1⟩
 have hs1 := hs1.symm
 subst hs1
 rcases hu with ⟨rfl, hk0, rfl⟩ | ⟨k, rfl, rfl⟩
 ·refine AW.sr (J5 e1 e2 l1 l2 hz5) ?_
  refine AW.ret ?_
  simp only [zs, simprocAttr, zz, tt, e1, e2, l1, l2]
  all_goals ((try and_intros) <;> first | rfl | assumption | (((rw [hk0]) <;> rfl)))
 ·refine AW.freeze (k := k) (T := (25, 5)) (es := n.kids.map encNd) (by simp only [hpK, Hp.setGr_gr, if_true]) ?_
  have hem : (hpK k n.kids).setGr k none = Hp.empty := by simp [hpK]
  rw [hem]
  refine AW.sr (J12 @St.fz_t @St.fz_l @fzV.eq_1 @fzV.eq_2 @fz1.eq_1 @fz1.eq_2 @Option.map_some.{0,0} @List.map.eq_1.{0,0} @List.map.eq_2.{0,0} e1 e2 (J3 l1 l2 hz5)) ?_
  refine AW.ret ?_
  simp only [zs, simprocAttr, zz, tt, St.fz_t, St.fz_l, fzV, fz1, Option.map_some, List.map, e1, e2, l1, l2]
  all_goals ((try and_intros) <;> first | rfl | assumption | (rfl))
theorem clonePat_spec (p : Pat) (hn : p.node.small) (hf : p.node.fewT) (hc : p.conds.length < 1048576) : PCalls Tryz.prog 34 [.agg (encPat p)] (fun v => v = .agg (encPat p)) := by
 have hcl := cloneNode_spec p.node hn hf
 rw [encNd_eq] at hcl
 refine PCalls.intro Tryz.call34 Tryz.func34 rfl Tryz.ntmps34 Tryz.results34 (by simp) ?_
 have q1q := J2 @encPat.eq_1 @nd
 refine AW.sr q1q ?_
 refine AW.seq_k fun K2 h2 => ?_
 refine AW.reg0 ?_
 iterate 2 refine S.one q1q ?_
 have q2q := J2 @encPat.eq_1 @nd
 (refine S.g rfl rfl fun Y Z => ?_; simp only [zz, simprocAttr, -Int.reduceNatCast', -Int.reduceToNat, q2q]; refine PCalls.eqto (cloneC_spec p.conds hc) ?_ <;> (refine Z _ _ ?_; clear Z Y))
 all_goals iterate 2 refine S.one q2q ?_
 all_goals (refine S.nil ?_; simp only [ze, simprocAttr, q2q]; apply_assumption)
 refine AW.seq_k fun K3 h3 => ?_
 all_goals refine AW.reg0 ?_
 all_goals iterate 2 refine S.one q2q ?_
 all_goals have q3q := J2 @encPat.eq_1 @nd
 all_goals (refine S.g rfl rfl fun Y Z => ?_; simp only [zz, simprocAttr, -Int.reduceNatCast', -Int.reduceToNat, q3q]; refine PCalls.eqto hcl ?_ <;> (refine Z _ _ ?_; clear Z Y))
 all_goals iterate 2 refine S.one q3q ?_
 all_goals (refine S.nil ?_; simp only [ze, simprocAttr, q3q]; apply_assumption)
 all_goals refine AW.sr q3q ?_
 refine AW.ret ?_
 all_goals simp only [zs, simprocAttr, zz, tt]
 all_goals ((try and_intros) <;> first | rfl | assumption | (rfl))
end Go.Abs.M
namespace Go.Proofs
open Go.Shelf
def Tryz.itoaL_ren : Go.Shelf.Ren := ⟨fun | 171 => 77 | 243 => 120 | 246 => 162 | 283 => 183 | 284 => 184 | 285 => 185 | 286 => 186 | 129 => 202 | 317 => 216 | 318 => 217 | 319 => 218 | 320 => 219 | 337 => 232 | 338 => 233 | n => n, fun | 3 => 3 | 9 => 9 | 2 => 2 | 4 => 4 | 171 => 218 | 0 => 0 | 53 => 219 | 37 => 158 | 5 => 5 | 173 => 222 | 212 => 250 | 51 => 238 | 20 => 20 | 213 => 251 | 46 => 210 | 232 => 264 | 233 => 265 | n => n, fun | 17 => 0 | 18 => 1 | 19 => 2 | n => n⟩
theorem Tryz.itoaL : Go.Proofs.LaysM.n171 Tryz.prog Tryz.itoaL_ren := {
 mixed := by kernel_rfl
 f129 := Tryz.func202.trans (congrArg some (by kernel_rfl))
 f171 := Tryz.func77.trans (congrArg some (by kernel_rfl))
 f243 := Tryz.func120.trans (congrArg some (by kernel_rfl))
 f246 := Tryz.func162.trans (congrArg some (by kernel_rfl))
 f283 := Tryz.func183.trans (congrArg some (by kernel_rfl))
 f284 := Tryz.func184.trans (congrArg some (by kernel_rfl))
 f285 := Tryz.func185.trans (congrArg some (by kernel_rfl))
 f286 := Tryz.func186.trans (congrArg some (by kernel_rfl))
 f317 := Tryz.func216.trans (congrArg some (by kernel_rfl))
 f318 := Tryz.func217.trans (congrArg some (by kernel_rfl))
 f319 := Tryz.func218.trans (congrArg some (by kernel_rfl))
 f320 := Tryz.func219.trans (congrArg some (by kernel_rfl))
 f337 := Tryz.func232.trans (congrArg some (by kernel_rfl))
 f338 := Tryz.func233.trans (congrArg some (by kernel_rfl))
 t0 := Tryz.underlying0
 a0 := Tryz.isAgg0
 z0 := Tryz.sizeOf0
 v0 := Tryz.zeroValue0
 t2 := Tryz.underlying2
 a2 := Tryz.isAgg2
 z2 := Tryz.sizeOf2
 v2 := Tryz.zeroValue2
 t3 := Tryz.underlying3
 a3 := Tryz.isAgg3
 z3 := Tryz.sizeOf3
 v3 := Tryz.zeroValue3
 t4 := Tryz.underlying4
 a4 := Tryz.isAgg4
 z4 := Tryz.sizeOf4
 v4 := Tryz.zeroValue4
 t5 := Tryz.underlying5
 a5 := Tryz.isAgg5
 z5 := Tryz.sizeOf5
 v5 := Tryz.zeroValue5
 t9 := Tryz.underlying9
 a9 := Tryz.isAgg9
 z9 := Tryz.sizeOf9
 v9 := Tryz.zeroValue9
 t20 := Tryz.underlying20
 a20 := Tryz.isAgg20
 z20 := Tryz.sizeOf20
 v20 := Tryz.zeroValue20
 t37 := Tryz.underlying158
 a37 := Tryz.isAgg158
 z37 := Tryz.sizeOf158
 v37 := Tryz.zeroValue158
 t46 := Tryz.underlying210
 a46 := Tryz.isAgg210
 z46 := Tryz.sizeOf210
 v46 := Tryz.zeroValue210
 t51 := Tryz.underlying238
 a51 := Tryz.isAgg238
 z51 := Tryz.sizeOf238
 v51 := Tryz.zeroValue238
 t53 := Tryz.underlying219
 a53 := Tryz.isAgg219
 z53 := Tryz.sizeOf219
 v53 := Tryz.zeroValue219
 t171 := Tryz.underlying218
 a171 := Tryz.isAgg218
 z171 := Tryz.sizeOf218
 v171 := Tryz.zeroValue218
 t173 := Tryz.underlying222
 a173 := Tryz.isAgg222
 z173 := Tryz.sizeOf222
 v173 := Tryz.zeroValue222
 t212 := Tryz.underlying250
 a212 := Tryz.isAgg250
 z212 := Tryz.sizeOf250
 v212 := Tryz.zeroValue250
 t213 := Tryz.underlying251
 a213 := Tryz.isAgg251
 z213 := Tryz.sizeOf251
 t232 := Tryz.underlying264
 a232 := Tryz.isAgg264
 z232 := Tryz.sizeOf264
 v232 := Tryz.zeroValue264
 t233 := Tryz.underlying265
 a233 := Tryz.isAgg265
 z233 := Tryz.sizeOf265
 v233 := Tryz.zeroValue265
 g17 := by kernel_rfl
 g18 := by kernel_rfl
 g19 := by kernel_rfl
 i0 := by kernel_rfl
 i2 := by kernel_rfl
 i3 := by kernel_rfl
 i4 := by kernel_rfl
 i5 := by kernel_rfl
 i9 := by kernel_rfl
 i20 := by kernel_rfl
 i37 := by kernel_rfl
 i46 := by kernel_rfl
 i51 := by kernel_rfl
 i53 := by kernel_rfl
 i171 := by kernel_rfl
 i173 := by kernel_rfl
 i212 := by kernel_rfl
 i232 := by kernel_rfl
 i233 := by kernel_rfl
 m17 := by kernel_rfl
 m18 := by kernel_rfl
 m19 := by kernel_rfl }
def Tryz.fmtL_ren : Go.Shelf.Ren := ⟨fun | 173 => 121 | 246 => 162 | 283 => 183 | 284 => 184 | 285 => 185 | 286 => 186 | 129 => 202 | 317 => 216 | 318 => 217 | 319 => 218 | 320 => 219 | 337 => 232 | 338 => 233 | n => n, fun | 2 => 2 | 3 => 3 | 9 => 9 | 4 => 4 | 171 => 218 | 0 => 0 | 53 => 219 | 37 => 158 | 5 => 5 | 173 => 222 | 212 => 250 | 51 => 238 | 20 => 20 | 213 => 251 | 46 => 210 | 232 => 264 | 233 => 265 | n => n, fun | 17 => 0 | 18 => 1 | 19 => 2 | n => n⟩
theorem Tryz.fmtL : Go.Proofs.LaysM.n173 Tryz.prog Tryz.fmtL_ren := {
 mixed := by kernel_rfl
 f129 := Tryz.func202.trans (congrArg some (by kernel_rfl))
 f173 := Tryz.func121.trans (congrArg some (by kernel_rfl))
 f246 := Tryz.func162.trans (congrArg some (by kernel_rfl))
 f283 := Tryz.func183.trans (congrArg some (by kernel_rfl))
 f284 := Tryz.func184.trans (congrArg some (by kernel_rfl))
 f285 := Tryz.func185.trans (congrArg some (by kernel_rfl))
 f286 := Tryz.func186.trans (congrArg some (by kernel_rfl))
 f317 := Tryz.func216.trans (congrArg some (by kernel_rfl))
 f318 := Tryz.func217.trans (congrArg some (by kernel_rfl))
 f319 := Tryz.func218.trans (congrArg some (by kernel_rfl))
 f320 := Tryz.func219.trans (congrArg some (by kernel_rfl))
 f337 := Tryz.func232.trans (congrArg some (by kernel_rfl))
 f338 := Tryz.func233.trans (congrArg some (by kernel_rfl))
 t0 := Tryz.underlying0
 a0 := Tryz.isAgg0
 z0 := Tryz.sizeOf0
 v0 := Tryz.zeroValue0
 t2 := Tryz.underlying2
 a2 := Tryz.isAgg2
 z2 := Tryz.sizeOf2
 v2 := Tryz.zeroValue2
 t3 := Tryz.underlying3
 a3 := Tryz.isAgg3
 z3 := Tryz.sizeOf3
 v3 := Tryz.zeroValue3
 t4 := Tryz.underlying4
 a4 := Tryz.isAgg4
 z4 := Tryz.sizeOf4
 v4 := Tryz.zeroValue4
 t5 := Tryz.underlying5
 a5 := Tryz.isAgg5
 z5 := Tryz.sizeOf5
 v5 := Tryz.zeroValue5
 t9 := Tryz.underlying9
 a9 := Tryz.isAgg9
 z9 := Tryz.sizeOf9
 v9 := Tryz.zeroValue9
 t20 := Tryz.underlying20
 a20 := Tryz.isAgg20
 z20 := Tryz.sizeOf20
 v20 := Tryz.zeroValue20
 t37 := Tryz.underlying158
 a37 := Tryz.isAgg158
 z37 := Tryz.sizeOf158
 v37 := Tryz.zeroValue158
 t46 := Tryz.underlying210
 a46 := Tryz.isAgg210
 z46 := Tryz.sizeOf210
 v46 := Tryz.zeroValue210
 t51 := Tryz.underlying238
 a51 := Tryz.isAgg238
 z51 := Tryz.sizeOf238
 v51 := Tryz.zeroValue238
 t53 := Tryz.underlying219
 a53 := Tryz.isAgg219
 z53 := Tryz.sizeOf219
 v53 := Tryz.zeroValue219
 t171 := Tryz.underlying218
 a171 := Tryz.isAgg218
 z171 := Tryz.sizeOf218
 v171 := Tryz.zeroValue218
 t173 := Tryz.underlying222
 a173 := Tryz.isAgg222
 z173 := Tryz.sizeOf222
 v173 := Tryz.zeroValue222
 t212 := Tryz.underlying250
 a212 := Tryz.isAgg250
 z212 := Tryz.sizeOf250
 v212 := Tryz.zeroValue250
 t213 := Tryz.underlying251
 a213 := Tryz.isAgg251
 z213 := Tryz.sizeOf251
 t232 := Tryz.underlying264
 a232 := Tryz.isAgg264
 z232 := Tryz.sizeOf264
 v232 := Tryz.zeroValue264
 t233 := Tryz.underlying265
 a233 := Tryz.isAgg265
 z233 := Tryz.sizeOf265
 v233 := Tryz.zeroValue265
 g17 := by kernel_rfl
 g18 := by kernel_rfl
 g19 := by kernel_rfl
 i0 := by kernel_rfl
 i2 := by kernel_rfl
 i3 := by kernel_rfl
 i4 := by kernel_rfl
 i5 := by kernel_rfl
 i9 := by kernel_rfl
 i20 := by kernel_rfl
 i37 := by kernel_rfl
 i46 := by kernel_rfl
 i51 := by kernel_rfl
 i53 := by kernel_rfl
 i171 := by kernel_rfl
 i173 := by kernel_rfl
 i212 := by kernel_rfl
 i232 := by kernel_rfl
 i233 := by kernel_rfl
 m17 := by kernel_rfl
 m18 := by kernel_rfl
 m19 := by kernel_rfl }
end Go.Proofs
namespace Go.Abs.M
open Go Go.Abs Go.Proofs
def tabV (tq : Nat × Nat × Nat) : List V := toldV (Lib.pow10Tab.map fun z => Value.int .u64 z) tq.1 tq.2.1 tq.2.2
theorem gTab : Tryz.prog.globalNamed "internal/strconv.uint64pow10" = some 0 := by kernel_rfl
theorem VRs.consts {w : World} {cx : Cx} : ∀ {vs xs : List Value}, VRs w cx (vs.map V.c) xs → xs = vs
  | [], xs, h => h.unnil
  | v :: vs, xs, h => by
    obtain ⟨y, zs, rfl, _, h2, h3⟩ := VRs.uncons h
    cases h2
    rw [VRs.consts h3]
variable {tq : Nat × Nat × Nat}
theorem tab_at {cx : Cx} {σ : Hp} {w : World} (hH : HR cx σ w) (hg : σ.obj 0 = some (tabV tq)) : w.heap[0]? = some (.cells ⟨Lib.pow10Tab.map fun z => Value.int .u64 z⟩ tq.1 (tq.2.1, tq.2.2)) := by
  obtain ⟨o, ho, hr⟩ := hH.obj 0 _ hg
  generalize hv : tabV tq = vs at hr
  cases hr with
  | cells h =>
    subst hv
    obtain ⟨x, ys, rfl, h1, h2, _⟩ := VRs.uncons h
    cases h2
    cases h1
  | @map es ms clock hn hh hb hc =>
    have h1 : es[0]? = some .junk := by injection hv with hv; injection hv with hv; rw [← hv]; rfl
    have hl : 0 < ms.length := by rw [← hn]; exact (List.getElem?_eq_some_iff.1 h1).1
    obtain ⟨v, h2, _⟩ := hh 0 _ _ h1 (List.getElem?_eq_getElem hl)
    cases h2
  | told us T p q =>
    simp only [tabV, toldV, List.cons.injEq, V.tup.injEq, V.c.injEq, Value.int.injEq, true_and, and_true, Int.natCast_inj] at hv
    obtain ⟨h1, h2, h3, h4⟩ := hv
    have h5 : us = Lib.pow10Tab.map fun z => Value.int .u64 z := (List.map_inj_right (f := V.c) (fun a b e => by injection e)).1 h4.symm
    rw [ho, h5, ← h1, ← h2, ← h3]
theorem tab_is {cx : Cx} {σ : Hp} {w : World} (hH : HR cx σ w) (hg : σ.obj 0 = some (tabV tq)) : Lib.TabIs Tryz.prog w "internal/strconv.uint64pow10" .u64 Lib.pow10Tab := by
 have ho := tab_at hH hg
 unfold Lib.TabIs World.var?
 rw [gTab]
 simp only [Option.bind_some, ho]
theorem left_grow {cx : Cx} {σ : Hp} {w : World} (hH : HR cx σ w) (k : Nat) (os : Array Obj) : Left cx σ w cx σ (Sort.grow (w.drewN k) os) := by
 have hs : w.heap.size ≤ (Sort.grow (w.drewN k) os).heap.size := by simp [Sort.grow, World.drewN]
 have hb : ∀ g, g < w.heap.size → (Sort.grow (w.drewN k) os).heap[g]? = w.heap[g]? := fun g hg => by
  simp only [Sort.grow, World.drewN]
  exact Array.getElem?_append_left hg
 exact ⟨hH.new (.refl _) (fun _ h => .inl h) hs hb, ⟨rfl, rfl, ⟨rfl, fun h => h.elim⟩, hs, fun g' hg' _ => hb g' hg', .refl _, fun g' hi => .inl hi, fun g' ho => .inl (own_keep hH (.refl _) ho)⟩, fun k x hk => .inl ⟨x, hk⟩, fun g' x hx => .inl ⟨x, hx⟩⟩
theorem itoa_all {σ : Hp} (hg : σ.obj 0 = some (tabV tq)) (n : Int) (h0 : -9223372036854775808 ≤ n) (h1 : n ≤ 9223372036854775807) :
  ACalls Tryz.prog 77 [.c (.int .i64 n)] σ (fun v σ' => σ' = σ ∧ v = .c (.string (bytesOf (Lib.itoa n)))) := by
 refine ⟨Tryz.call77, fun cx w xs hH ha => ?_⟩
 have hx : xs = [.int .i64 n] := ha.consts (vs := [.int .i64 n])
 subst hx
 refine (Any.strconv_Itoa Tryz.itoaL n h0 h1 w (tab_is hH hg)).mono fun e w' ⟨he, k, os, hw⟩ => ?_
 subst hw
 exact ⟨_, _, cx, σ, he, .c _, left_grow hH k os, rfl, rfl⟩
theorem fmt_all {σ : Hp} (hg : σ.obj 0 = some (tabV tq)) (n : Int) (h0 : -9223372036854775808 ≤ n) (h1 : n ≤ 9223372036854775807) :
  ACalls Tryz.prog 121 [.c (.int .i64 n), .c (.int .i64 10)] σ (fun v σ' => σ' = σ ∧ v = .c (.string (bytesOf (Lib.itoa n)))) := by
 refine ⟨Tryz.call121, fun cx w xs hH ha => ?_⟩
 have hx : xs = [.int .i64 n, .int .i64 10] := ha.consts (vs := [.int .i64 n, .int .i64 10])
 subst hx
 refine (Any.strconv_FormatInt_10 Tryz.fmtL n h0 h1 w (tab_is hH hg)).mono fun e w' ⟨he, k, os, hw⟩ => ?_
 subst hw
 exact ⟨_, _, cx, σ, he, .c _, left_grow hH k os, rfl, rfl⟩
end Go.Abs.M
namespace Go.Abs.M
open Go Go.Abs Go.Proofs
set_option maxRecDepth 20000
def itoaB (n : Int) : ByteArray := bytesOf (Lib.itoa n)
theorem itoaB_size (n : Int) (h0 : -9223372036854775808 ≤ n) (h1 : n ≤ 9223372036854775807) : (itoaB n).size ≤ 21 := by
 have := Lib.itoa_length_le n h0 h1
 simpa [itoaB, bytesOf, ByteArray.size] using this
def wordB (s : ByteArray) : ByteArray := itoaB s.size ++ ⟨#[58]⟩ ++ s
theorem word_spec {tq : Nat × Nat × Nat} {σ : Hp} (hg : σ.obj 0 = some (tabV tq)) (s : ByteArray) (hs : s.size ≤ 4611686018427387904) : ACalls Tryz.prog 78 [.c (.string s)] σ (fun v σ' => σ' = σ ∧ v = .c (.string (wordB s))) := by
 refine ACalls.intro Tryz.call78 Tryz.func78 rfl Tryz.ntmps78 Tryz.results78 (by simp) ?_
 have hb := itoaB_size s.size (by omega) (by omega)
 have h58 : (⟨#[58]⟩ : ByteArray).size = 1 := rfl
 have y1 : ((itoaB s.size).size + (⟨#[58]⟩ : ByteArray).size ≤ 9223372036854775807) = True := eq_true (by omega)
 have y2 : ((itoaB s.size ++ ⟨#[58]⟩).size + s.size ≤ 9223372036854775807) = True := eq_true (by rw [ByteArray.size_append]; omega)
 unfold itoaB at y1 y2
 refine AW.sr trivial ?_
 refine AW.seq_k fun K2 h2 => ?_
 refine AW.reg0 ?_
 iterate 2 refine S.one (J2 y1 y2) ?_
 (refine S.g rfl rfl fun Y Z => ?_; simp only [zz, simprocAttr, -Int.reduceNatCast', -Int.reduceToNat, y1, y2]; (refine ACalls.to (itoa_all hg _ (by omega) (by omega)) ?_; rintro v1 σ1 ⟨hs1, rfl⟩; have hs1 := hs1.symm; subst hs1) <;> (refine Z _ _ ?_; clear Z Y))
 all_goals iterate 4 refine S.one (J2 y1 y2) ?_
 all_goals (refine S.nil ?_; simp only [ze, simprocAttr, y1, y2]; apply_assumption)
 refine AW.ret ?_
 all_goals simp only [zs, simprocAttr]
 all_goals ((try and_intros) <;> first | rfl | assumption | (rfl))
theorem wordB_size (s : ByteArray) (hs : s.size ≤ 4611686018427387904) : (wordB s).size ≤ s.size + 22 := by
 have hb := itoaB_size s.size (by omega) (by omega)
 have h58 : (⟨#[58]⟩ : ByteArray).size = 1 := rfl
 rw [wordB, ByteArray.size_append, ByteArray.size_append]; omega
def sp : ByteArray := ⟨#[32]⟩
def opdB (o : Opd) : ByteArray := sp ++ wordB o.var ++ wordB o.attr ++ itoaB o.v.kind ++ sp ++ itoaB o.v.n ++ sp ++ wordB o.v.s
def stepB (s : ByteArray) (c : Cnd) : ByteArray := s ++ opdB c.l ++ opdB c.r ++ (sp ++ itoaB c.rel)
def condsB (l : List Cnd) : ByteArray := l.foldl stepB (itoaB l.length)
structure keyO (o : Opd) : Prop where
  var : o.var.size ≤ 1048576
  attr : o.attr.size ≤ 1048576
  s : o.v.s.size ≤ 1048576
  kind : inI64 o.v.kind
  n : inI64 o.v.n
structure keyC (c : Cnd) : Prop where
  l : keyO c.l
  r : keyO c.r
  rel : inI64 c.rel
theorem opdB_size {o : Opd} (hk : keyO o) : (opdB o).size ≤ 4194304 := by
 have a1 := wordB_size o.var (by have := hk.var; omega)
 have a2 := wordB_size o.attr (by have := hk.attr; omega)
 have a3 := wordB_size o.v.s (by have := hk.s; omega)
 have b1 := itoaB_size o.v.kind hk.kind.1 hk.kind.2
 have b2 := itoaB_size o.v.n hk.n.1 hk.n.2
 have := hk.var; have := hk.attr; have := hk.s
 have hsp : sp.size = 1 := rfl
 simp only [opdB, ByteArray.size_append]
 omega
theorem le_true {a : ByteArray} {n : Nat} (h : a.size + n ≤ 9223372036854775807) : (a.size + n ≤ 9223372036854775807) = True := eq_true h
theorem stepB_size {s : ByteArray} {c : Cnd} (hk : keyC c) : (stepB s c).size ≤ s.size + 8388640 := by
 have a1 := opdB_size hk.l
 have a2 := opdB_size hk.r
 have a3 := itoaB_size c.rel hk.rel.1 hk.rel.2
 have hsp : sp.size = 1 := rfl
 simp only [stepB, ByteArray.size_append]
 omega
theorem condsT_spec {tq : Nat × Nat × Nat} {σ : Hp} (hg : σ.obj 0 = some (tabV tq)) (l : List Cnd) (hl : l.length < 1048576) (hk : ∀ c ∈ l, keyC c) : ACalls Tryz.prog 79 [.sl (l.map encC)] σ (fun v σ' => σ' = σ ∧ v = .c (.string (condsB l))) := by
 refine ACalls.intro Tryz.call79 Tryz.func79 rfl Tryz.ntmps79 Tryz.results79 (by simp) ?_
 refine AW.sr trivial ?_
 refine AW.seq_k fun K2 h2 => ?_
 refine AW.reg0 ?_
 iterate 2 refine S.one @List.length_map.{0,0} ?_
 (refine S.g rfl rfl fun Y Z => ?_; simp only [zz, simprocAttr, -Int.reduceNatCast', -Int.reduceToNat, List.length_map]; (refine ACalls.to (itoa_all hg _ (by omega) (by omega)) ?_; rintro v1 σ1 ⟨hs1, rfl⟩; have hs1 := hs1.symm; subst hs1) <;> (refine Z _ _ ?_; clear Z Y))
 all_goals refine S.one @List.length_map.{0,0} ?_
 all_goals (refine S.nil ?_; simp only [ze, simprocAttr, List.length_map]; apply_assumption)
 refine AW.seq_k fun K3 h3 => ?_
 all_goals refine AW.sr @List.length_map.{0,0} ?_
 refine AW.block ?_   -- 0
 refine AW.loop (fun m s σ' => σ' = σ ∧ ∃ (i : Nat) (cur : ByteArray), m + i = l.length ∧ s.t 3 = .c (.string cur) ∧ s.t 11 = .sl (l.map encC) ∧ s.t 12 = .c (.int .i64 (l.length : Nat)) ∧ s.t 13 = .c (.int .i64 (i : Nat)) ∧ condsB l = (l.drop i).foldl stepB cur ∧ cur.size ≤ 21 + i * 8388640) l.length ?_ ?_
 ·refine ⟨rfl, 0, itoaB l.length, by simp, ?_⟩
  simp only [zs, simprocAttr, -Int.reduceNatCast', -Int.reduceToNat]
  exact ⟨rfl, rfl, rfl, itoaB_size _ (by omega) (by omega)⟩
 rintro m s σ1 ⟨hs1, i, cur, hm, e3, e11, e12, e13, hp, hsz⟩
 have hs1 := hs1.symm
 subst hs1
 all_goals refine AW.sr (J2 e12 e13) ?_
 refine AW.seq_k fun K6 h6 => ?_
 refine AW.cond (b := decide (i < l.length)) (by simp [ev]) (fun hi => ?_) (fun hi => ?_)
 ·have hi := of_decide_eq_true hi
  obtain ⟨x, hx, hgx, hd⟩ := cnd_nth hi
  have hxm : x ∈ l := List.mem_of_getElem? hx
  have hkc := hk x hxm
  have hw := wadd1 (a := i) (by omega)
  rw [hd, List.foldl_cons] at hp
  have hsz2 := stepB_size (s := cur) hkc
  refine AW.skip ?_
  simp only [zs, simprocAttr]
  all_goals apply_assumption
  refine AW.seq_j (fun s' σ' => σ' = σ ∧ s'.t 3 = .c (.string (stepB cur x)) ∧ s'.t 11 = .sl (l.map encC) ∧ s'.t 12 = .c (.int .i64 (l.length : Nat)) ∧ s'.t 13 = .c (.int .i64 (i : Nat))) ?_ ?_
  ·refine AW.block ?_   -- 1
   obtain ⟨ops, hops⟩ : ∃ o, o = [x.l, x.r] := ⟨_, rfl⟩
   have hol : ops.length = 2 := by rw [hops]; rfl
   have hok : ∀ o ∈ ops, keyO o := by rw [hops]; intro o ho; simp only [List.mem_cons, List.not_mem_nil, or_false] at ho; rcases ho with rfl | rfl <;> first | exact hkc.l | exact hkc.r
   refine AW.seq_j (fun s' σ' => σ' = σ ∧ s'.t 3 = .c (.string cur) ∧ s'.t 11 = .sl (l.map encC) ∧ s'.t 12 = .c (.int .i64 (l.length : Nat)) ∧ s'.t 13 = .c (.int .i64 (i : Nat)) ∧ s'.t 5 = .lp 5 0 ∧ s'.l 5 = some (encC x)) ?_ ?_
   ·skip
    refine AW.reg0 (S.rn (J9 e3 e11 e12 e13 hi hgx @encC.eq_1 @encO.eq_1 @List.length_map.{0,0}) ?_)
    simp only [ze, simprocAttr, e3, e11, e12, e13, hi, hgx, encC, encO, List.length_map]
    all_goals ((try and_intros) <;> first | rfl | assumption | (rfl))
   clear e3 e11 e12 e13 s
   rintro s σ1 ⟨hs1, e3, e11, e12, e13, e5, l5⟩
   have hs1 := hs1.symm
   subst hs1
   simp only [encC, encO, List.cons_append, List.nil_append] at l5
   refine AW.seq_j (fun s' σ' => σ' = σ ∧ s'.t 3 = .c (.string (cur ++ opdB x.l ++ opdB x.r)) ∧ s'.t 11 = .sl (l.map encC) ∧ s'.t 12 = .c (.int .i64 (l.length : Nat)) ∧ s'.t 13 = .c (.int .i64 (i : Nat)) ∧ s'.t 5 = .lp 5 0 ∧ s'.l 5 = some (encC x)) ?_ ?_
   ·refine AW.seq_k fun K7 h7 => ?_
    refine AW.reg0 ?_
    iterate 4 refine S.one (J8 e3 e11 e12 e13 e5 l5 @encC.eq_1 @encO.eq_1) ?_
    (refine S.g rfl rfl fun Y Z => ?_; simp only [zb, simprocAttr, -Int.reduceNatCast', -Int.reduceToNat, tt, e3, e11, e12, e13, e5, l5, encC, encO]; refine ⟨by decide, (fun e he => by simp only [List.mem_cons, List.not_mem_nil, or_false] at he; rcases he with rfl | rfl <;> rfl), ?_⟩ <;> (refine Z _ _ ?_; clear Z Y))
    all_goals iterate 2 refine S.one (J8 e3 e11 e12 e13 e5 l5 @encC.eq_1 @encO.eq_1) ?_
    all_goals (refine S.nil ?_; simp only [ze, simprocAttr, e3, e11, e12, e13, e5, l5, encC, encO]; apply_assumption)
    refine AW.block ?_   -- 2
    refine AW.loop (fun m s σ' => σ' = σ ∧ ∃ (j : Nat), m + j = 2 ∧ s.t 3 = .c (.string ((ops.take j).foldl (fun t o => t ++ opdB o) cur)) ∧ s.t 11 = .sl (l.map encC) ∧ s.t 12 = .c (.int .i64 (l.length : Nat)) ∧ s.t 13 = .c (.int .i64 (i : Nat)) ∧ s.t 5 = .lp 5 0 ∧ s.l 5 = some (encC x) ∧ s.t 21 = .sl (ops.map encO) ∧ s.t 22 = .c (.int .i64 2) ∧ s.t 23 = .c (.int .i64 (j : Nat))) 2 ?_ ?_
    ·refine ⟨rfl, 0, by simp, ?_⟩
     simp only [zs, simprocAttr, e3, e11, e12, e13, e5, l5]
     rw [hops]
     all_goals ((try and_intros) <;> first | rfl | assumption | (rfl))
    clear e3 e11 e12 e13 e5 l5 s
    rintro m s σ1 ⟨hs1, j, hm, e3, e11, e12, e13, e5, l5, e21, e22, e23⟩
    have hs1 := hs1.symm
    subst hs1
    all_goals refine AW.sr (J2 e22 e23) ?_
    refine AW.seq_k fun K9 h9 => ?_
    refine AW.cond (b := decide ((j : Int) < 2)) (by simp [ev]) (fun hj => ?_) (fun hj => ?_)
    ·have hj : j < 2 := by have := of_decide_eq_true hj; omega
     have hjl : j < ops.length := by omega
     have hgo : (ops.map encO).getD j [] = encO ops[j] := getD_map hjl
     have hom : ops[j] ∈ ops := List.getElem_mem hjl
     have hst : (ops.take (j + 1)).foldl (fun t o => t ++ opdB o) cur = (ops.take j).foldl (fun t o => t ++ opdB o) cur ++ opdB ops[j] := by
      rw [List.take_add_one, List.getElem?_eq_getElem hjl, List.foldl_append]; rfl
     have hcs : ((ops.take j).foldl (fun t o => t ++ opdB o) cur).size ≤ cur.size + 4194304 := by
      rcases (by omega : j = 0 ∨ j = 1) with rfl | rfl
      ·simp
      ·have := opdB_size hkc.l
       rw [hops]; simp only [List.take_succ_cons, List.take_zero, List.foldl_cons, List.foldl_nil, ByteArray.size_append]; omega
     have hk := hok _ hom
     generalize ops[j] = o at hgo hom hst hk
     generalize (ops.take j).foldl (fun t o => t ++ opdB o) cur = t at e3 hst hcs
     have hwj := wadd1 (a := j) (by omega)
     refine AW.skip ?_
     simp only [zs, simprocAttr]
     all_goals apply_assumption
     refine AW.seq_j (fun s' σ' => σ' = σ ∧ s'.t 3 = .c (.string (t ++ opdB o)) ∧ s'.t 11 = .sl (l.map encC) ∧ s'.t 12 = .c (.int .i64 (l.length : Nat)) ∧ s'.t 13 = .c (.int .i64 (i : Nat)) ∧ s'.t 5 = .lp 5 0 ∧ s'.l 5 = some (encC x) ∧ s'.t 21 = .sl (ops.map encO) ∧ s'.t 22 = .c (.int .i64 2) ∧ s'.t 23 = .c (.int .i64 (j : Nat))) ?_ ?_
     ·refine AW.block ?_   -- 3
      refine AW.seq_j (fun s' σ' => σ' = σ ∧ s'.t 3 = .c (.string t) ∧ s'.t 11 = .sl (l.map encC) ∧ s'.t 12 = .c (.int .i64 (l.length : Nat)) ∧ s'.t 13 = .c (.int .i64 (i : Nat)) ∧ s'.t 5 = .lp 5 0 ∧ s'.l 5 = some (encC x) ∧ s'.t 21 = .sl (ops.map encO) ∧ s'.t 22 = .c (.int .i64 2) ∧ s'.t 23 = .c (.int .i64 (j : Nat)) ∧ s'.t 7 = .lp 7 0 ∧ s'.l 7 = some (encO o)) ?_ ?_
      ·skip
       refine AW.reg0 (S.rn (J12 e3 e11 e12 e13 e5 l5 e21 e22 e23 hjl hj (J4 hol hgo @encO.eq_1 @List.length_map.{0,0})) ?_)
       simp only [ze, simprocAttr, e3, e11, e12, e13, e5, l5, e21, e22, e23, hjl, hj, hol, hgo, encO, List.length_map]
       all_goals ((try and_intros) <;> first | rfl | assumption | (rfl))
      clear e3 e11 e12 e13 e5 l5 e21 e22 e23 s
      rintro s σ1 ⟨hs1, e3, e11, e12, e13, e5, l5, e21, e22, e23, e7, l7⟩
      have hs1 := hs1.symm
      subst hs1
      have a1 := wordB_size o.var (by have := hk.var; omega)
      have a2 := wordB_size o.attr (by have := hk.attr; omega)
      have a3 := wordB_size o.v.s (by have := hk.s; omega)
      have b1 := itoaB_size o.v.kind hk.kind.1 hk.kind.2
      have b2 := itoaB_size o.v.n hk.n.1 hk.n.2
      have := hk.var
      have := hk.attr
      have := hk.s
      have h32 : sp.size = 1 := rfl
      have q1 := le_true (a := sp) (n := (wordB o.var).size) (by omega)
      have q2 := le_true (a := sp ++ wordB o.var) (n := (wordB o.attr).size) (by simp only [ByteArray.size_append]; omega)
      have q3 := le_true (a := sp ++ wordB o.var ++ wordB o.attr) (n := (itoaB o.v.kind).size) (by simp only [ByteArray.size_append]; omega)
      have q4 := le_true (a := sp ++ wordB o.var ++ wordB o.attr ++ itoaB o.v.kind) (n := sp.size) (by simp only [ByteArray.size_append]; omega)
      have q5 := le_true (a := sp ++ wordB o.var ++ wordB o.attr ++ itoaB o.v.kind ++ sp) (n := (itoaB o.v.n).size) (by simp only [ByteArray.size_append]; omega)
      have q6 := le_true (a := sp ++ wordB o.var ++ wordB o.attr ++ itoaB o.v.kind ++ sp ++ itoaB o.v.n) (n := sp.size) (by simp only [ByteArray.size_append]; omega)
      have q7 := le_true (a := sp ++ wordB o.var ++ wordB o.attr ++ itoaB o.v.kind ++ sp ++ itoaB o.v.n ++ sp) (n := (wordB o.v.s).size) (by simp only [ByteArray.size_append]; omega)
      have q8 := le_true (a := t) (n := (opdB o).size) (by have := opdB_size hk; omega)
      unfold itoaB sp at q1 q2 q3 q4 q5 q6 q7
      unfold opdB itoaB sp at q8
      clear a1 a2 a3 b1 b2 h32
      all_goals refine AW.dT { sd := fun d => d == 7 } (.st 0 0 (.st 1 0 (.st 5 0 (.st 9 0 (.st 10 0 (.st 15 0 (.st 16 0 (.st 21 0 (.st 22 0 (.st 2 1 (.st 6 1 (.st 11 1 (.st 17 1 (.st 23 1 (.st 3 2 (.st 4 0 (.st 7 2 (.st 8 0 (.st 12 2 (.st 13 0 (.st 14 0 (.st 18 2 (.st 19 0 (.st 20 0 (.st 24 2 (.st 25 0 (.st 26 0 (.st 27 0 .nil)))))))))))))))))))))))))))) ?_
      all_goals iterate 14 refine T.onf (J12 @Bool.or_self @kill.eq_1 @kill.eq_2 e3 e11 e12 e13 e5 l5 e21 e22 (J12 e23 e7 l7 @encO.eq_1 q1 q2 q3 q4 q5 q6 q7 q8)) ?_
      all_goals (refine T.g rfl trivial rfl rfl fun Y Z => ?_; simp only [zz, simprocAttr, -Int.reduceNatCast', -Int.reduceToNat, Nat.reduceBEq, Bool.or_self, kill, e3, e11, e12, e13, e5, l5, e21, e22, e23, e7, l7, encO, q1, q2, q3, q4, q5, q6, q7, q8]; (refine ACalls.to (word_spec hg _ (by have := hk.var; omega)) ?_; rintro v1 σ1 ⟨hs1, rfl⟩; have hs1 := hs1.symm; subst hs1) <;> (refine Z _ _ ?_; clear Z Y))
      all_goals refine T.onf (J12 @Bool.or_self @kill.eq_1 @kill.eq_2 e3 e11 e12 e13 e5 l5 e21 e22 (J12 e23 e7 l7 @encO.eq_1 q1 q2 q3 q4 q5 q6 q7 q8)) ?_
      all_goals (refine T.g rfl trivial rfl rfl fun Y Z => ?_; simp only [zz, simprocAttr, -Int.reduceNatCast', -Int.reduceToNat, Nat.reduceBEq, Bool.or_self, kill, e3, e11, e12, e13, e5, l5, e21, e22, e23, e7, l7, encO, q1, q2, q3, q4, q5, q6, q7, q8]; (refine ACalls.to (word_spec hg _ (by have := hk.attr; omega)) ?_; rintro v1 σ1 ⟨hs1, rfl⟩; have hs1 := hs1.symm; subst hs1) <;> (refine Z _ _ ?_; clear Z Y))
      all_goals refine T.onf (J12 @Bool.or_self @kill.eq_1 @kill.eq_2 e3 e11 e12 e13 e5 l5 e21 e22 (J12 e23 e7 l7 @encO.eq_1 q1 q2 q3 q4 q5 q6 q7 q8)) ?_
      all_goals (refine T.g rfl trivial rfl rfl fun Y Z => ?_; simp only [zz, simprocAttr, -Int.reduceNatCast', -Int.reduceToNat, Nat.reduceBEq, Bool.or_self, kill, e3, e11, e12, e13, e5, l5, e21, e22, e23, e7, l7, encO, q1, q2, q3, q4, q5, q6, q7, q8]; (refine ACalls.to (itoa_all hg _ hk.kind.1 hk.kind.2) ?_; rintro v1 σ1 ⟨hs1, rfl⟩; have hs1 := hs1.symm; subst hs1) <;> (refine Z _ _ ?_; clear Z Y))
      all_goals iterate 2 refine T.onf (J12 @Bool.or_self @kill.eq_1 @kill.eq_2 e3 e11 e12 e13 e5 l5 e21 e22 (J12 e23 e7 l7 @encO.eq_1 q1 q2 q3 q4 q5 q6 q7 q8)) ?_
      all_goals (refine T.g rfl trivial rfl rfl fun Y Z => ?_; simp only [zz, simprocAttr, -Int.reduceNatCast', -Int.reduceToNat, Nat.reduceBEq, Bool.or_self, kill, e3, e11, e12, e13, e5, l5, e21, e22, e23, e7, l7, encO, q1, q2, q3, q4, q5, q6, q7, q8]; (refine ACalls.to (fmt_all hg _ hk.n.1 hk.n.2) ?_; rintro v1 σ1 ⟨hs1, rfl⟩; have hs1 := hs1.symm; subst hs1) <;> (refine Z _ _ ?_; clear Z Y))
      all_goals iterate 2 refine T.onf (J12 @Bool.or_self @kill.eq_1 @kill.eq_2 e3 e11 e12 e13 e5 l5 e21 e22 (J12 e23 e7 l7 @encO.eq_1 q1 q2 q3 q4 q5 q6 q7 q8)) ?_
      all_goals (refine T.g rfl trivial rfl rfl fun Y Z => ?_; simp only [zz, simprocAttr, -Int.reduceNatCast', -Int.reduceToNat, Nat.reduceBEq, Bool.or_self, kill, e3, e11, e12, e13, e5, l5, e21, e22, e23, e7, l7, encO, q1, q2, q3, q4, q5, q6, q7, q8]; (refine ACalls.to (word_spec hg _ (by have := hk.s; omega)) ?_; rintro v1 σ1 ⟨hs1, rfl⟩; have hs1 := hs1.symm; subst hs1) <;> (refine Z _ _ ?_; clear Z Y))
      all_goals iterate 3 refine T.onf (J12 @Bool.or_self @kill.eq_1 @kill.eq_2 e3 e11 e12 e13 e5 l5 e21 e22 (J12 e23 e7 l7 @encO.eq_1 q1 q2 q3 q4 q5 q6 q7 q8)) ?_
      all_goals refine T.nil ?_
      all_goals simp only [ze, simprocAttr, Nat.reduceBEq, Bool.or_self, kill, e3, e11, e12, e13, e5, l5, e21, e22, e23, e7, l7, encO, q1, q2, q3, q4, q5, q6, q7, q8]
      all_goals ((try and_intros) <;> first | rfl | assumption | (rfl))
     clear e3 e11 e12 e13 e5 l5 e21 e22 e23 s
     rintro s σ1 ⟨hs1, e3, e11, e12, e13, e5, l5, e21, e22, e23⟩
     have hs1 := hs1.symm
     subst hs1
     all_goals refine AW.reg0 (S.rn (J10 e3 e11 e12 e13 e5 l5 e21 e22 e23 hwj) ?_)
     all_goals simp only [ze, simprocAttr, e3, e11, e12, e13, e5, l5, e21, e22, e23, hwj]
     refine ⟨m - 1, by omega, j + 1, by omega, ?_⟩
     rw [hst]
     all_goals ((try and_intros) <;> first | rfl | assumption | (rfl))
    ·have hj : ¬ j < 2 := by have := of_decide_eq_false hj; omega
     obtain rfl : j = 2 := by omega
     refine AW.exit ?_
     simp only [zs, simprocAttr]
     rw [hops] at e3
     exact ⟨e3, e11, e12, e13, e5, l5⟩
   clear e3 e11 e12 e13 e5 l5 s
   rintro s σ1 ⟨hs1, e3, e11, e12, e13, e5, l5⟩
   have hs1 := hs1.symm
   subst hs1
   simp only [encC, encO, List.cons_append, List.nil_append] at l5
   have b1 := itoaB_size x.rel hkc.rel.1 hkc.rel.2
   have h32 : sp.size = 1 := rfl
   have c1 := opdB_size hkc.l
   have c2 := opdB_size hkc.r
   have q1 := le_true (a := sp) (n := (itoaB x.rel).size) (by omega)
   have q2 := le_true (a := cur ++ opdB x.l ++ opdB x.r) (n := (sp ++ itoaB x.rel).size) (by simp only [ByteArray.size_append]; omega)
   unfold itoaB sp at q1 q2
   all_goals refine AW.reg0 ?_
   all_goals iterate 3 refine S.one (J8 e3 e11 e12 e13 e5 l5 q1 q2) ?_
   all_goals (refine S.g rfl rfl fun Y Z => ?_; simp only [zz, simprocAttr, -Int.reduceNatCast', -Int.reduceToNat, e3, e11, e12, e13, e5, l5, q1, q2]; (refine ACalls.to (itoa_all hg _ hkc.rel.1 hkc.rel.2) ?_; rintro v1 σ1 ⟨hs1, rfl⟩; have hs1 := hs1.symm; subst hs1) <;> (refine Z _ _ ?_; clear Z Y))
   all_goals iterate 3 refine S.one (J8 e3 e11 e12 e13 e5 l5 q1 q2) ?_
   all_goals refine S.nil ?_
   all_goals simp only [ze, simprocAttr, e3, e11, e12, e13, e5, l5, q1, q2]
   all_goals ((try and_intros) <;> first | rfl | assumption | (rfl))
  clear e3 e11 e12 e13 s
  rintro s σ1 ⟨hs1, e3, e11, e12, e13⟩
  have hs1 := hs1.symm
  subst hs1
  all_goals refine AW.reg0 (S.rn (J5 e3 e11 e12 e13 hw) ?_)
  all_goals simp only [ze, simprocAttr, e3, e11, e12, e13, hw]
  refine ⟨m - 1, by omega, i + 1, stepB cur x, by omega, ?_⟩
  all_goals ((try and_intros) <;> first | rfl | assumption | (first | exact hp | omega))
 ·have hi := of_decide_eq_false hi
  refine AW.exit ?_
  simp only [zs, simprocAttr]
  all_goals apply_assumption
  rw [List.drop_of_length_le (by omega)] at hp
  refine AW.sr e3 ?_
  refine AW.ret ?_
  simp only [zs, simprocAttr]
  rw [hp]
  all_goals ((try and_intros) <;> first | rfl | assumption | (rfl))
def entKf : Nat → List ByteArray → List V
  | _, [] => []
  | k, s :: l => .tup [.c (.string s), .c (.int .i64 (k : Nat))] :: entKf (k + 1) l
def entK (l : List ByteArray) : List V := entKf 0 l
theorem entKf_ok : ∀ (l : List ByteArray) (k : Nat), entOk isStr (entKf k l) = true
  | [], _ => rfl
  | s :: l, k => by
    have := entKf_ok l (k + 1)
    simp only [entKf, entOk, isStr, okV, Bool.true_and] at this ⊢
    exact this
theorem entK_ok (l : List ByteArray) : entOk isStr (entK l) = true := entKf_ok l 0
theorem entKf_at (s : ByteArray) : ∀ (l : List ByteArray) (k i : Nat), (s ∉ l ∧ entV (entKf k l) (.string s) i = none) ∨ ∃ j, l[j]? = some s ∧ (∀ q < j, l[q]? ≠ some s) ∧ entV (entKf k l) (.string s) i = some (i + j, .c (.int .i64 ((k + j : Nat) : Int)))
  | [], k, i => .inl ⟨by simp, rfl⟩
  | t :: l, k, i => by
    have hc : entV (entKf k (t :: l)) (.string s) i = if (s.toList == t.toList) then some (i, .c (.int .i64 (k : Nat))) else entV (entKf (k + 1) l) (.string s) (i + 1) := entV_cons (.string t) (.string s) (.c (.int .i64 (k : Nat))) (entKf (k + 1) l) i
    rw [hc]
    cases h : (s.toList == t.toList)
    · have hst : s ≠ t := fun e => by rw [e] at h; simp at h
      rw [if_neg Bool.false_ne_true]
      rcases entKf_at s l (k + 1) (i + 1) with ⟨h1, h2⟩ | ⟨j, h1, h2, h3⟩
      · exact .inl ⟨by simp [hst, h1], h2⟩
      · refine .inr ⟨j + 1, by simpa using h1, fun q hq => ?_, by rw [h3]; congr 2; omega; congr 3; omega⟩
        cases q with
        | zero => simp [Ne.symm hst]
        | succ q => simpa using h2 q (by omega)
    · have e : s = t := eqS_iff.1 h
      exact .inr ⟨0, by rw [e]; rfl, fun q hq => by omega, by rw [if_pos rfl]; rfl⟩
theorem entKf_app (s : ByteArray) : ∀ (l : List ByteArray) (k : Nat), entKf k l ++ [.tup [.c (.string s), .c (.int .i64 ((k + l.length : Nat) : Int))]] = entKf k (l ++ [s])
  | [], k => rfl
  | t :: l, k => by
    have := entKf_app s l (k + 1)
    rw [List.cons_append, entKf, entKf, List.cons_append, ← this, List.length_cons, show k + (l.length + 1) = k + 1 + l.length by omega]
def keyOp (o : OpS) : ByteArray := itoaB o.kind ++ sp ++ wordB o.var ++ wordB o.type ++ condsB o.tests ++ ⟨#[47]⟩ ++ condsB o.conds
def keyB (o : OpS) (f : List Int) : ByteArray := f.foldl (fun k n => k ++ (sp ++ itoaB n)) (keyOp o)
theorem condsB_size (l : List Cnd) (hl : l.length < 1048576) (hk : ∀ c ∈ l, keyC c) : (condsB l).size ≤ 21 + l.length * 8388640 := by
  have : ∀ (r : List Cnd) (s : ByteArray), (∀ c ∈ r, keyC c) → (r.foldl stepB s).size ≤ s.size + r.length * 8388640 := by
    intro r
    induction r with
    | nil => intro s _; simp
    | cons c r ih =>
      intro s h
      have h1 := ih (stepB s c) fun d hd => h d (List.mem_cons_of_mem _ hd)
      have h2 := stepB_size (s := s) (h c List.mem_cons_self)
      rw [List.foldl_cons, List.length_cons]
      omega
  have h1 := this l (itoaB l.length) hk
  have h2 := itoaB_size l.length (by omega) (by omega)
  rw [condsB]; omega
structure keyP (o : OpS) : Prop where
  kind : inI64 o.kind
  var : o.var.size ≤ 1048576
  type : o.type.size ≤ 1048576
  tl : o.tests.length < 1048576
  cl : o.conds.length < 1048576
  tests : ∀ c ∈ o.tests, keyC c
  conds : ∀ c ∈ o.conds, keyC c
theorem keyOp_size {o : OpS} (h : keyP o) : (keyOp o).size ≤ 17592253186048 := by
 have a1 := itoaB_size o.kind h.kind.1 h.kind.2
 have a2 := wordB_size o.var (by have := h.var; omega)
 have a3 := wordB_size o.type (by have := h.type; omega)
 have a4 := condsB_size o.tests h.tl h.tests
 have a5 := condsB_size o.conds h.cl h.conds
 have := h.var; have := h.type; have := h.tl; have := h.cl
 have h32 : sp.size = 1 := rfl
 have h47 : (⟨#[47]⟩ : ByteArray).size = 1 := rfl
 simp only [keyOp, ByteArray.size_append]
 omega
end Go.Abs.M
namespace Go.Abs.M
open Go Go.Abs Go.Proofs
variable [Mode]
set_option maxRecDepth 20000
structure okOp (o : OpS) : Prop where
  tests : o.tests.length < 4611686018427387904
  conds : o.conds.length < 4611686018427387904
def sameOp (a b : OpS) : Bool := (a.kind == b.kind) && (eqS a.var b.var && (eqS a.type b.type && (allEq eqC a.tests b.tests && (allEq eqC a.conds b.conds && (a.win == b.win && a.ins == b.ins)))))
theorem rsameOp_spec (a b : OpS) (ha : okOp a) : PCalls Tryz.prog 42 [.agg (encOp a), .agg (encOp b)] (fun v => v = .c (.bool (sameOp a b))) := by
 refine PCalls.intro Tryz.call42 Tryz.func42 rfl Tryz.ntmps42 Tryz.results42 (by simp) ?_
 refine AW.sr @encOp.eq_1 ?_
 refine AW.seq_j (fun s' σ' => σ' = Hp.empty ∧ s'.t 4 = .c (.bool (sameOp a b))) ?_ ?_
 ·skip
  refine AW.reg0 ?_
  iterate 4 refine S.one @encOp.eq_1 ?_
  (refine S.sp @encOp.eq_1 fun b a9 => ?_; cases b <;> (try exact nope a9))
  all_goals iterate 5 refine S.one @encOp.eq_1 ?_
  all_goals (first | (refine S.sp @encOp.eq_1 fun b a15 => ?_; cases b <;> (try exact nope a15)) | ((first | refine S.x rfl rfl rfl rfl fun Y Z => ?_ | refine S.u rfl rfl rfl rfl fun Y Z => ?_); simp only [ze, simprocAttr, -Int.reduceNatCast', -Int.reduceToNat]; refine Z _ _ ?_; clear Z Y))
  all_goals iterate 6 refine S.one @encOp.eq_1 ?_
  all_goals (first | (refine S.sp @encOp.eq_1 fun b a22 => ?_; cases b <;> (try exact nope a22)) | ((first | refine S.x rfl rfl rfl rfl fun Y Z => ?_ | refine S.u rfl rfl rfl rfl fun Y Z => ?_); simp only [ze, simprocAttr, -Int.reduceNatCast', -Int.reduceToNat]; refine Z _ _ ?_; clear Z Y))
  all_goals iterate 6 refine S.one @encOp.eq_1 ?_
  all_goals (first | (refine S.y rfl rfl rfl rfl fun Y Z => ?_; simp only [zz, simprocAttr, -Int.reduceNatCast', -Int.reduceToNat, encOp]; (first | refine PCalls.eqto (rsameC _ _ ha.tests) ?_ | refine PCalls.eqto (rsameC _ _ ha.conds) ?_); refine S.bool fun b a29 => ?_; cases b <;> (try exact nope a29) <;> (refine Z _ _ ?_; clear Z Y)) | ((first | refine S.x rfl rfl rfl rfl fun Y Z => ?_ | refine S.u rfl rfl rfl rfl fun Y Z => ?_); simp only [ze, simprocAttr, -Int.reduceNatCast', -Int.reduceToNat]; refine Z _ _ ?_; clear Z Y))
  all_goals iterate 6 refine S.one @encOp.eq_1 ?_
  all_goals (first | (refine S.y rfl rfl rfl rfl fun Y Z => ?_; simp only [zz, simprocAttr, -Int.reduceNatCast', -Int.reduceToNat, encOp]; (first | refine PCalls.eqto (rsameC _ _ ha.tests) ?_ | refine PCalls.eqto (rsameC _ _ ha.conds) ?_); refine S.bool fun b a36 => ?_; cases b <;> (try exact nope a36) <;> (refine Z _ _ ?_; clear Z Y)) | ((first | refine S.x rfl rfl rfl rfl fun Y Z => ?_ | refine S.u rfl rfl rfl rfl fun Y Z => ?_); simp only [ze, simprocAttr, -Int.reduceNatCast', -Int.reduceToNat]; refine Z _ _ ?_; clear Z Y))
  all_goals iterate 6 refine S.one @encOp.eq_1 ?_
  all_goals (first | (refine S.sp @encOp.eq_1 fun b a43 => ?_; cases b <;> (try exact nope a43)) | ((first | refine S.x rfl rfl rfl rfl fun Y Z => ?_ | refine S.u rfl rfl rfl rfl fun Y Z => ?_); simp only [ze, simprocAttr, -Int.reduceNatCast', -Int.reduceToNat]; refine Z _ _ ?_; clear Z Y))
  all_goals iterate 9 refine S.one @encOp.eq_1 ?_
  all_goals refine S.nil ?_
  all_goals simp only [ze, simprocAttr, encOp]
  all_goals simp_all [sameOp, eqS]
 rintro s σ ⟨rfl, e4⟩
 refine AW.ret ?_
 all_goals simp only [zs, simprocAttr, e4]
 all_goals ((try and_intros) <;> first | rfl | assumption | (rfl))
theorem sameOp_spec (a b : OpS) (ha : okOp a) : PCalls Tryz.prog 47 [.agg (encOp a), .agg (encOp b)] (fun v => v = .c (.bool (sameOp a b))) := by
 refine PCalls.intro Tryz.call47 Tryz.func47 rfl Tryz.ntmps47 Tryz.results47 (by simp) ?_
 refine AW.sr @encOp.eq_1 ?_
 refine AW.seq_j (fun s' σ' => σ' = Hp.empty ∧ s'.t 4 = .c (.bool (sameOp a b))) ?_ ?_
 ·skip
  refine AW.reg0 ?_
  iterate 4 refine S.one @encOp.eq_1 ?_
  (refine S.sp @encOp.eq_1 fun b a9 => ?_; cases b <;> (try exact nope a9))
  all_goals iterate 5 refine S.one @encOp.eq_1 ?_
  all_goals (first | (refine S.sp @encOp.eq_1 fun b a15 => ?_; cases b <;> (try exact nope a15)) | ((first | refine S.x rfl rfl rfl rfl fun Y Z => ?_ | refine S.u rfl rfl rfl rfl fun Y Z => ?_); simp only [ze, simprocAttr, -Int.reduceNatCast', -Int.reduceToNat]; refine Z _ _ ?_; clear Z Y))
  all_goals iterate 6 refine S.one @encOp.eq_1 ?_
  all_goals (first | (refine S.sp @encOp.eq_1 fun b a22 => ?_; cases b <;> (try exact nope a22)) | ((first | refine S.x rfl rfl rfl rfl fun Y Z => ?_ | refine S.u rfl rfl rfl rfl fun Y Z => ?_); simp only [ze, simprocAttr, -Int.reduceNatCast', -Int.reduceToNat]; refine Z _ _ ?_; clear Z Y))
  all_goals iterate 6 refine S.one @encOp.eq_1 ?_
  all_goals (first | (refine S.sp @encOp.eq_1 fun b a29 => ?_; cases b <;> (try exact nope a29)) | ((first | refine S.x rfl rfl rfl rfl fun Y Z => ?_ | refine S.u rfl rfl rfl rfl fun Y Z => ?_); simp only [ze, simprocAttr, -Int.reduceNatCast', -Int.reduceToNat]; refine Z _ _ ?_; clear Z Y))
  all_goals iterate 6 refine S.one @encOp.eq_1 ?_
  all_goals (first | (refine S.sp @encOp.eq_1 fun b a36 => ?_; cases b <;> (try exact nope a36)) | ((first | refine S.x rfl rfl rfl rfl fun Y Z => ?_ | refine S.u rfl rfl rfl rfl fun Y Z => ?_); simp only [ze, simprocAttr, -Int.reduceNatCast', -Int.reduceToNat]; refine Z _ _ ?_; clear Z Y))
  all_goals iterate 6 refine S.one @encOp.eq_1 ?_
  all_goals (first | (refine S.y rfl rfl rfl rfl fun Y Z => ?_; simp only [zz, simprocAttr, -Int.reduceNatCast', -Int.reduceToNat, encOp]; (first | refine PCalls.eqto (equalC _ _ ha.tests) ?_ | refine PCalls.eqto (equalC _ _ ha.conds) ?_); refine S.bool fun b a43 => ?_; cases b <;> (try exact nope a43) <;> (refine Z _ _ ?_; clear Z Y)) | ((first | refine S.x rfl rfl rfl rfl fun Y Z => ?_ | refine S.u rfl rfl rfl rfl fun Y Z => ?_); simp only [ze, simprocAttr, -Int.reduceNatCast', -Int.reduceToNat]; refine Z _ _ ?_; clear Z Y))
  all_goals iterate 6 refine S.one @encOp.eq_1 ?_
  all_goals (first | (refine S.y rfl rfl rfl rfl fun Y Z => ?_; simp only [zz, simprocAttr, -Int.reduceNatCast', -Int.reduceToNat, encOp]; (first | refine PCalls.eqto (equalC _ _ ha.tests) ?_ | refine PCalls.eqto (equalC _ _ ha.conds) ?_) <;> (refine Z _ _ ?_; clear Z Y)) | ((first | refine S.x rfl rfl rfl rfl fun Y Z => ?_ | refine S.u rfl rfl rfl rfl fun Y Z => ?_); simp only [ze, simprocAttr, -Int.reduceNatCast', -Int.reduceToNat]; refine Z _ _ ?_; clear Z Y))
  all_goals iterate 2 refine S.one @encOp.eq_1 ?_
  all_goals refine S.nil ?_
  all_goals simp only [ze, simprocAttr, encOp]
  all_goals simp_all [sameOp, eqS]
 rintro s σ ⟨rfl, e4⟩
 refine AW.ret ?_
 all_goals simp only [zs, simprocAttr, e4]
 all_goals ((try and_intros) <;> first | rfl | assumption | (rfl))
theorem eqF46 {g : Nat} {p : OpS → OpS → Bool} (l r : List (OpS)) (hl : l.length < 4611686018427387904) (hf : ∀ a ∈ l, ∀ b : OpS, PCalls Tryz.prog g [.agg (encOp a), .agg (encOp b)] (fun v => v = .c (.bool (p a b)))) :
  PCalls Tryz.prog 46 [.sl (l.map encOp), .sl (r.map encOp), .fn (.func g) [] []] (fun v => v = .c (.bool (allEq p l r))) := by
 refine PCalls.intro Tryz.call46 Tryz.func46 rfl Tryz.ntmps46 Tryz.results46 (by simp) ?_
 refine AW.sr trivial ?_
 refine AW.seq_k fun K2 h2 => ?_
 refine AW.sr trivial ?_
 refine AW.cond (b := ((l.length : Int) != r.length)) (by simp [ev]) (fun hc => ?_) (fun hc => ?_)
 ·refine AW.sr trivial ?_
  refine AW.ret ?_
  simp only [zs, simprocAttr]
  rw [allEq_len (by simp at hc; omega)]
 ·refine AW.skip ?_
  simp only [zs, simprocAttr]
  all_goals apply_assumption
  have hlr : l.length = r.length := by simp at hc; omega
  refine AW.seq_k fun K5 h5 => ?_
  refine AW.sr @List.length_map.{0,0} ?_
  refine AW.block ?_   -- 0
  refine AW.loop (fun m s σ => σ = Hp.empty ∧ ∃ i : Nat, m + i = l.length ∧ s.t 1 = .sl (r.map encOp) ∧ s.t 2 = .fn (.func g) [] [] ∧ s.t 15 = .sl (l.map encOp) ∧ s.t 16 = .c (.int .i64 (l.length : Nat)) ∧ s.t 17 = .c (.int .i64 (i : Nat)) ∧ allEq p l r = allEq p (l.drop i) (r.drop i)) l.length ?_ ?_
  ·refine ⟨rfl, 0, by simp, ?_⟩
   simp only [zs, simprocAttr]
   all_goals ((try and_intros) <;> first | rfl | assumption | (rfl))
  rintro m s σ ⟨rfl, i, hm, e1, e2, e15, e16, e17, hp⟩
  all_goals refine AW.sr (J2 e16 e17) ?_
  refine AW.seq_k fun K8 h8 => ?_
  refine AW.cond (b := decide (i < l.length)) (by simp [ev]) (fun hc => ?_) (fun hc => ?_)
  ·refine AW.skip ?_
   simp only [zs, simprocAttr]
   all_goals apply_assumption
   have hi : i < l.length := by simpa using hc
   have hj : i < r.length := by omega
   have hg := getD_map (f := encOp) hi
   have hg2 := getD_map (f := encOp) hj
   have hd : l.drop i = l[i] :: l.drop (i + 1) := List.drop_eq_getElem_cons hi
   have hd2 : r.drop i = r[i] :: r.drop (i + 1) := List.drop_eq_getElem_cons hj
   have ham := List.getElem_mem hi
   generalize ha : l[i] = a at hg hd ham
   generalize hb : r[i] = b at hg2 hd2
   rw [hd, hd2, allEq] at hp
   have hw := wadd1 (a := i) (by omega)
   refine AW.seq_k fun K9 h9 => ?_
   refine AW.block ?_   -- 1
   refine AW.sr (J6 e15 e17 hi hg @encOp.eq_1 @List.length_map.{0,0}) ?_
   refine AW.sr (J5 e1 hj hg2 @encOp.eq_1 @List.length_map.{0,0}) ?_
   refine AW.seq_k fun K12 h12 => ?_
   refine AW.reg0 ?_
   iterate 3 refine S.one (J3 e2 @encOp.eq_1 @List.length_map.{0,0}) ?_
   have q1q := J3 e2 @encOp.eq_1 @List.length_map.{0,0}
   (refine S.g rfl rfl fun Y Z => ?_; simp only [zz, simprocAttr, -Int.reduceNatCast', -Int.reduceToNat, q1q]; refine PCalls.eqto (hf a ham b) ?_ <;> (refine Z _ _ ?_; clear Z Y))
   all_goals refine S.one q1q ?_
   all_goals (refine S.nil ?_; simp only [ze, simprocAttr, q1q]; apply_assumption)
   refine AW.cond (b := !p a b) (by simp [ev]) (fun hc => ?_) (fun hc => ?_)
   ·refine AW.sr trivial ?_
    refine AW.ret ?_
    simp only [zs, simprocAttr]
    have hx : p a b = false := by simpa using hc
    rw [hp, hx, Bool.false_and]
   ·refine AW.skip ?_
    simp only [zs, simprocAttr]
    all_goals apply_assumption
    have hx : p a b = true := by simpa using hc
    refine AW.reg0 (S.rn (J3 e16 e17 hw) ?_)
    simp only [ze, simprocAttr, e16, e17, hw]
    refine ⟨m - 1, by omega, i + 1, by omega, ?_⟩
    rw [hp, hx, Bool.true_and]
    simp only [zs, simprocAttr, e1, e2, e15]
    all_goals ((try and_intros) <;> first | rfl | assumption | (rfl))
  ·refine AW.exit ?_
   simp only [zs, simprocAttr]
   all_goals apply_assumption
   refine AW.sr trivial ?_
   refine AW.ret ?_
   simp only [zs, simprocAttr]
   have hi : l.length ≤ i := by simpa using hc
   rw [hp, List.drop_of_length_le hi, List.drop_of_length_le (by omega), allEq]
theorem eqF48 {g : Nat} {p : List Int → List Int → Bool} (l r : List (List Int)) (hl : l.length < 4611686018427387904) (hf : ∀ a ∈ l, ∀ b : List Int, PCalls Tryz.prog g [.sl (a.map encI), .sl (b.map encI)] (fun v => v = .c (.bool (p a b)))) :
  PCalls Tryz.prog 48 [.sl (l.map encF), .sl (r.map encF), .fn (.func g) [] []] (fun v => v = .c (.bool (allEq p l r))) := by
 refine PCalls.intro Tryz.call48 Tryz.func48 rfl Tryz.ntmps48 Tryz.results48 (by simp) ?_
 refine AW.sr trivial ?_
 refine AW.seq_k fun K2 h2 => ?_
 refine AW.sr trivial ?_
 refine AW.cond (b := ((l.length : Int) != r.length)) (by simp [ev]) (fun hc => ?_) (fun hc => ?_)
 ·refine AW.sr trivial ?_
  refine AW.ret ?_
  simp only [zs, simprocAttr]
  rw [allEq_len (by simp at hc; omega)]
 ·refine AW.skip ?_
  simp only [zs, simprocAttr]
  all_goals apply_assumption
  have hlr : l.length = r.length := by simp at hc; omega
  refine AW.seq_k fun K5 h5 => ?_
  refine AW.sr @List.length_map.{0,0} ?_
  refine AW.block ?_   -- 0
  refine AW.loop (fun m s σ => σ = Hp.empty ∧ ∃ i : Nat, m + i = l.length ∧ s.t 1 = .sl (r.map encF) ∧ s.t 2 = .fn (.func g) [] [] ∧ s.t 15 = .sl (l.map encF) ∧ s.t 16 = .c (.int .i64 (l.length : Nat)) ∧ s.t 17 = .c (.int .i64 (i : Nat)) ∧ allEq p l r = allEq p (l.drop i) (r.drop i)) l.length ?_ ?_
  ·refine ⟨rfl, 0, by simp, ?_⟩
   simp only [zs, simprocAttr]
   all_goals ((try and_intros) <;> first | rfl | assumption | (rfl))
  rintro m s σ ⟨rfl, i, hm, e1, e2, e15, e16, e17, hp⟩
  all_goals refine AW.sr (J2 e16 e17) ?_
  refine AW.seq_k fun K8 h8 => ?_
  refine AW.cond (b := decide (i < l.length)) (by simp [ev]) (fun hc => ?_) (fun hc => ?_)
  ·refine AW.skip ?_
   simp only [zs, simprocAttr]
   all_goals apply_assumption
   have hi : i < l.length := by simpa using hc
   have hj : i < r.length := by omega
   have hg := getD_map (f := encF) hi
   have hg2 := getD_map (f := encF) hj
   have hd : l.drop i = l[i] :: l.drop (i + 1) := List.drop_eq_getElem_cons hi
   have hd2 : r.drop i = r[i] :: r.drop (i + 1) := List.drop_eq_getElem_cons hj
   have ham := List.getElem_mem hi
   generalize ha : l[i] = a at hg hd ham
   generalize hb : r[i] = b at hg2 hd2
   rw [hd, hd2, allEq] at hp
   have hw := wadd1 (a := i) (by omega)
   refine AW.seq_k fun K9 h9 => ?_
   refine AW.block ?_   -- 1
   refine AW.sr (J6 e15 e17 hi hg @encF.eq_1 @List.length_map.{0,0}) ?_
   refine AW.sr (J5 e1 hj hg2 @encF.eq_1 @List.length_map.{0,0}) ?_
   refine AW.seq_k fun K12 h12 => ?_
   refine AW.reg0 ?_
   iterate 3 refine S.one (J3 e2 @encF.eq_1 @List.length_map.{0,0}) ?_
   have q1q := J3 e2 @encF.eq_1 @List.length_map.{0,0}
   (refine S.g rfl rfl fun Y Z => ?_; simp only [zz, simprocAttr, -Int.reduceNatCast', -Int.reduceToNat, q1q]; refine PCalls.eqto (hf a ham b) ?_ <;> (refine Z _ _ ?_; clear Z Y))
   all_goals refine S.one q1q ?_
   all_goals (refine S.nil ?_; simp only [ze, simprocAttr, q1q]; apply_assumption)
   refine AW.cond (b := !p a b) (by simp [ev]) (fun hc => ?_) (fun hc => ?_)
   ·refine AW.sr trivial ?_
    refine AW.ret ?_
    simp only [zs, simprocAttr]
    have hx : p a b = false := by simpa using hc
    rw [hp, hx, Bool.false_and]
   ·refine AW.skip ?_
    simp only [zs, simprocAttr]
    all_goals apply_assumption
    have hx : p a b = true := by simpa using hc
    refine AW.reg0 (S.rn (J3 e16 e17 hw) ?_)
    simp only [ze, simprocAttr, e16, e17, hw]
    refine ⟨m - 1, by omega, i + 1, by omega, ?_⟩
    rw [hp, hx, Bool.true_and]
    simp only [zs, simprocAttr, e1, e2, e15]
    all_goals ((try and_intros) <;> first | rfl | assumption | (rfl))
  ·refine AW.exit ?_
   simp only [zs, simprocAttr]
   all_goals apply_assumption
   refine AW.sr trivial ?_
   refine AW.ret ?_
   simp only [zs, simprocAttr]
   have hi : l.length ≤ i := by simpa using hc
   rw [hp, List.drop_of_length_le hi, List.drop_of_length_le (by omega), allEq]
theorem same49_spec (a b : List Int) (ha : a.length < 4611686018427387904) : PCalls Tryz.prog 49 [.sl (a.map encI), .sl (b.map encI)] (fun v => v = .c (.bool (allEq eqI a b))) := by
 refine PCalls.intro Tryz.call49 Tryz.func49 rfl Tryz.ntmps49 Tryz.results49 (by simp) ?_
 refine AW.sr trivial ?_
 refine AW.seq_k fun K2 h2 => ?_
 refine AW.reg0 ?_
 iterate 2 refine S.one trivial ?_
 (refine S.g rfl rfl fun Y Z => ?_; simp only [zz, simprocAttr, -Int.reduceNatCast', -Int.reduceToNat]; refine PCalls.eqto (equalI _ _ ha) ?_ <;> (refine Z _ _ ?_; clear Z Y))
 all_goals refine S.one trivial ?_
 all_goals (refine S.nil ?_; simp only [ze, simprocAttr]; apply_assumption)
 refine AW.ret ?_
 all_goals simp only [zs, simprocAttr]
 all_goals ((try and_intros) <;> first | rfl | assumption | (rfl))
structure okPl (x : Pln) : Prop where
  ops : x.ops.length < 4611686018427387904
  from_ : x.from_.length < 4611686018427387904
  op : ∀ o ∈ x.ops, okOp o
  fr : ∀ l ∈ x.from_, l.length < 4611686018427387904
def samePl (a b : Pln) : Bool := allEq sameOp a.ops b.ops && allEq (allEq eqI) a.from_ b.from_
theorem Same_spec (a b : Pln) (ha : okPl a) : PCalls Tryz.prog 13 [.agg (encPl a), .agg (encPl b)] (fun v => v = .c (.bool (samePl a b))) := by
 refine PCalls.intro Tryz.call13 Tryz.func13 rfl Tryz.ntmps13 Tryz.results13 (by simp) ?_
 refine AW.sr @encPl.eq_1 ?_
 refine AW.seq_j (fun s' σ' => σ' = Hp.empty ∧ s'.t 4 = .c (.bool (samePl a b))) ?_ ?_
 ·skip
  refine AW.reg0 ?_
  iterate 4 refine S.one @encPl.eq_1 ?_
  (refine S.g rfl rfl fun Y Z => ?_; simp only [zz, simprocAttr, -Int.reduceNatCast', -Int.reduceToNat, encPl]; refine PCalls.eqto (eqF46 a.ops b.ops ha.ops (fun x hx y => sameOp_spec x y (ha.op x hx))) ?_; refine S.bool fun b a9 => ?_; cases b <;> (try exact nope a9) <;> (refine Z _ _ ?_; clear Z Y))
  all_goals iterate 5 refine S.one @encPl.eq_1 ?_
  all_goals (first | (refine S.y rfl rfl rfl rfl fun Y Z => ?_; simp only [zz, simprocAttr, -Int.reduceNatCast', -Int.reduceToNat, encPl]; refine PCalls.eqto (eqF48 a.from_ b.from_ ha.from_ (fun x hx y => same49_spec x y (ha.fr x hx))) ?_ <;> (refine Z _ _ ?_; clear Z Y)) | ((first | refine S.x rfl rfl rfl rfl fun Y Z => ?_ | refine S.u rfl rfl rfl rfl fun Y Z => ?_); simp only [ze, simprocAttr, -Int.reduceNatCast', -Int.reduceToNat]; refine Z _ _ ?_; clear Z Y))
  all_goals iterate 2 refine S.one @encPl.eq_1 ?_
  all_goals refine S.nil ?_
  all_goals simp only [ze, simprocAttr, encPl]
  all_goals simp_all [samePl]
 rintro s σ ⟨rfl, e4⟩
 refine AW.ret ?_
 all_goals simp only [zs, simprocAttr, e4]
 all_goals ((try and_intros) <;> first | rfl | assumption | (rfl))
end Go.Abs.M
namespace Go.Abs.M
open Go Go.Abs Go.Proofs
set_option maxRecDepth 20000
def kindOf (k : Int) : Int := if k = 1 then 1 else if k = 2 then 2 else if k = 3 then 3 else 4
theorem Hp.eqs {a b : Hp} (h1 : ∀ j, a.obj j = b.obj j) (h2 : ∀ j, a.gr j = b.gr j) : a = b := by
 cases a; cases b
 simp only [Hp.mk.injEq]
 exact ⟨funext h1, funext h2⟩
def hitP (x : Pln) (o : OpS) (f : List Int) (i : Nat) : Bool := match x.ops[i]?, x.from_[i]? with
  | some a, some h => sameOp a o && allEq eqI h f
  | _, _ => false
def putPl (x : Pln) (o : OpS) (f : List Int) : Pln × Nat := match (List.range x.ops.length).find? (hitP x o f) with
  | some i => (x, i)
  | none => (⟨x.ops ++ [o], x.from_ ++ [f]⟩, x.ops.length)
theorem range_find {p : Nat → Bool} {n i : Nat} (hi : i < n) (hp : p i = true) (hb : ∀ j < i, p j = false) : (List.range n).find? p = some i := by
 rw [List.find?_range_eq_some]
 exact ⟨hp, List.mem_range.2 hi, fun j hj => by rw [hb j hj]; rfl⟩
theorem putPl_new {x : Pln} {o : OpS} {f : List Int} (hb : ∀ j < x.ops.length, hitP x o f j = false) : putPl x o f = (⟨x.ops ++ [o], x.from_ ++ [f]⟩, x.ops.length) := by
 have : (List.range x.ops.length).find? (hitP x o f) = none := by
  rw [List.find?_eq_none]
  intro j hj
  rw [hb j (List.mem_range.1 hj)]; exact Bool.false_ne_true
 rw [putPl, this]
theorem len_op1 (o : OpS) : (∀ (e : List V), e ∈ [encOp o] → e.length = 7) = True := eq_true fun e he => by rw [List.mem_singleton.1 he]; rfl
theorem len_f1 (f : List Int) : (∀ (e : List V), e ∈ [[V.sl (f.map encI)]] → e.length = 1) = True := eq_true fun e he => by rw [List.mem_singleton.1 he]; rfl
theorem int_nth {l : List Int} {i : Nat} (h : i < l.length) : ∃ x, l[i]? = some x ∧ (l.map encI).getD i [] = encI x ∧ x ∈ l := ⟨l[i], List.getElem?_eq_getElem h, getD_map h, List.getElem_mem h⟩
def mkB (tq : Nat × Nat × Nat) (g gm : Nat) (uo uf : V) (ks : List ByteArray) : Hp := ((Hp.empty.setObj 0 (some (tabV tq))).setObj gm (some [.tup (entK ks)])).setObj g (some [uo, uf, .c (.map (some gm))])
def mkP (tq : Nat × Nat × Nat) (g gm ko kf : Nat) (x : Pln) (ks : List ByteArray) : Hp := ((mkB tq g gm (.gl ko) (.gl kf) ks).setGr ko (some ((41, 7), x.ops.map encOp))).setGr kf (some ((48, 1), x.from_.map encF))
def keysOf (x : Pln) : List ByteArray := List.zipWith keyB x.ops x.from_
def MkH (tq : Nat × Nat × Nat) (g gm : Nat) (x : Pln) (σ : Hp) : Prop := (x.ops = [] ∧ x.from_ = [] ∧ σ = mkB tq g gm (.c (.slice none 0 0)) (.c (.slice none 0 0)) (keysOf x)) ∨ ∃ ko kf, ¬ ko = kf ∧ σ = mkP tq g gm ko kf x (keysOf x)
def putM (x : Pln) (o : OpS) (f : List Int) : Pln × Nat := match (List.range x.ops.length).find? (fun i => decide ((keysOf x)[i]? = some (keyB o f))) with
  | some i => (x, i)
  | none => (⟨x.ops ++ [o], x.from_ ++ [f]⟩, x.ops.length)
theorem keysOf_len {x : Pln} (hx : x.from_.length = x.ops.length) : (keysOf x).length = x.ops.length := by simp [keysOf, hx]
theorem keysOf_app {x : Pln} (hx : x.from_.length = x.ops.length) (o : OpS) (f : List Int) : keysOf ⟨x.ops ++ [o], x.from_ ++ [f]⟩ = keysOf x ++ [keyB o f] := by
 simp only [keysOf]
 rw [List.zipWith_append hx.symm]; rfl
theorem putM_hit {x : Pln} {o : OpS} {f : List Int} {j : Nat} (hx : x.from_.length = x.ops.length) (h1 : (keysOf x)[j]? = some (keyB o f)) (h2 : ∀ q < j, (keysOf x)[q]? ≠ some (keyB o f)) : putM x o f = (x, j) := by
 have hj : j < x.ops.length := by rw [← keysOf_len hx]; exact (List.getElem?_eq_some_iff.1 h1).1
 rw [putM, range_find hj (decide_eq_true h1) (fun q hq => decide_eq_false (h2 q hq))]
theorem putM_new {x : Pln} {o : OpS} {f : List Int} (h : keyB o f ∉ keysOf x) : putM x o f = (⟨x.ops ++ [o], x.from_ ++ [f]⟩, x.ops.length) := by
 have : (List.range x.ops.length).find? (fun i => decide ((keysOf x)[i]? = some (keyB o f))) = none := by
  rw [List.find?_eq_none]
  intro j hj
  simp only [decide_eq_true_eq]
  exact fun e => h (List.mem_of_getElem? e)
 rw [putM, this]
theorem put_spec {tq : Nat × Nat × Nat} {σ : Hp} {g gm : Nat} {x : Pln} (n1 : ¬ 0 = g) (n2 : ¬ 0 = gm) (hgn : ¬ g = gm) (hH : MkH tq g gm x σ) (hx : x.from_.length = x.ops.length) (hl : x.ops.length < 1048576) (o : OpS) (f : List Int) (ho : keyP o) (hf : ∀ n ∈ f, inI64 n) (hfl : f.length < 1048576) :
  ACalls Tryz.prog 38 [ptrV g, .agg (encOp o), .sl (f.map encI)] σ (fun v σ' => v = .c (.int .i64 ((putM x o f).2 : Nat)) ∧ MkH tq g gm (putM x o f).1 σ') := by
 have hg : σ.obj 0 = some (tabV tq) := by
  rcases hH with ⟨_, _, rfl⟩ | ⟨ko, kf, _, rfl⟩ <;> simp [mkP, mkB, n1, n2]
 obtain ⟨uo, uf, hobj⟩ : ∃ uo uf, σ.obj g = some [uo, uf, .c (.map (some gm))] := by
  rcases hH with ⟨_, _, rfl⟩ | ⟨ko, kf, _, rfl⟩ <;> exact ⟨_, _, by simp [mkP, mkB]; exact ⟨rfl, rfl⟩⟩
 have hmap : σ.obj gm = some [.tup (entK (keysOf x))] := by
  rcases hH with ⟨_, _, rfl⟩ | ⟨ko, kf, _, rfl⟩ <;> simp [mkP, mkB, Ne.symm hgn]
 have hkl := keysOf_len hx
 generalize hks : keysOf x = ks at hmap hkl
 refine ACalls.intro Tryz.call38 Tryz.func38 rfl Tryz.ntmps38 Tryz.results38 (by simp) ?_
 have h32 : sp.size = 1 := rfl
 refine AW.sr (J2 @ptrV.eq_1 @encOp.eq_1) ?_
 refine AW.seq_j (fun s' σ' => σ' = σ ∧ s'.t 0 = ptrV g ∧ s'.t 2 = .sl (f.map encI) ∧ s'.t 4 = .lp 4 0 ∧ s'.l 4 = some (encOp o) ∧ s'.t 7 = .c (.string (keyOp o))) ?_ ?_
 ·have a1 := itoaB_size o.kind ho.kind.1 ho.kind.2
  have a2 := wordB_size o.var (by have := ho.var; omega)
  have a3 := wordB_size o.type (by have := ho.type; omega)
  have a4 := condsB_size o.tests ho.tl ho.tests
  have a5 := condsB_size o.conds ho.cl ho.conds
  have := ho.var
  have := ho.type
  have := ho.tl
  have := ho.cl
  have h47 : (⟨#[47]⟩ : ByteArray).size = 1 := rfl
  have q1 := le_true (a := itoaB o.kind) (n := sp.size) (by omega)
  have q2 := le_true (a := itoaB o.kind ++ sp) (n := (wordB o.var).size) (by simp only [ByteArray.size_append]; omega)
  have q3 := le_true (a := itoaB o.kind ++ sp ++ wordB o.var) (n := (wordB o.type).size) (by simp only [ByteArray.size_append]; omega)
  have q4 := le_true (a := itoaB o.kind ++ sp ++ wordB o.var ++ wordB o.type) (n := (condsB o.tests).size) (by simp only [ByteArray.size_append]; omega)
  have q5 := le_true (a := itoaB o.kind ++ sp ++ wordB o.var ++ wordB o.type ++ condsB o.tests) (n := (⟨#[47]⟩ : ByteArray).size) (by simp only [ByteArray.size_append]; omega)
  have q6 := le_true (a := itoaB o.kind ++ sp ++ wordB o.var ++ wordB o.type ++ condsB o.tests ++ ⟨#[47]⟩) (n := (condsB o.conds).size) (by simp only [ByteArray.size_append]; omega)
  unfold itoaB sp at q1 q2 q3 q4 q5 q6
  clear a1 a2 a3 a4 a5 h47
  refine AW.dT { sd := fun d => d == 4 } (.st 0 0 (.st 4 0 (.st 8 0 (.st 12 0 (.st 17 0 (.st 1 1 (.st 5 1 (.st 9 1 (.st 13 1 (.st 18 1 (.st 2 2 (.st 3 0 (.st 6 2 (.st 7 0 (.st 10 2 (.st 11 0 (.st 14 2 (.st 15 0 (.st 16 0 (.st 19 2 (.st 20 0 (.st 21 0 .nil)))))))))))))))))))))) ?_
  have q1q := J11 @Bool.or_self @kill.eq_1 @kill.eq_2 @ptrV.eq_1 @encOp.eq_1 q1 q2 q3 q4 q5 q6
  iterate 10 refine T.onf q1q ?_
  have q2q := J11 @Bool.or_self @kill.eq_1 @kill.eq_2 @ptrV.eq_1 @encOp.eq_1 q1 q2 q3 q4 q5 q6
  (refine T.g rfl trivial rfl rfl fun Y Z => ?_; simp only [zz, simprocAttr, -Int.reduceNatCast', -Int.reduceToNat, q2q]; (refine ACalls.to (itoa_all hg _ ho.kind.1 ho.kind.2) ?_; rintro v1 σ1 ⟨hs1, rfl⟩; have hs1 := hs1.symm; subst hs1) <;> (refine Z _ _ ?_; clear Z Y))
  all_goals refine T.onf q2q ?_
  all_goals have q3q := J11 @Bool.or_self @kill.eq_1 @kill.eq_2 @ptrV.eq_1 @encOp.eq_1 q1 q2 q3 q4 q5 q6
  all_goals (refine T.g rfl trivial rfl rfl fun Y Z => ?_; simp only [zz, simprocAttr, -Int.reduceNatCast', -Int.reduceToNat, q3q]; (refine ACalls.to (word_spec hg _ (by have := ho.var; omega)) ?_; rintro v1 σ1 ⟨hs1, rfl⟩; have hs1 := hs1.symm; subst hs1) <;> (refine Z _ _ ?_; clear Z Y))
  all_goals refine T.onf q3q ?_
  all_goals have q4q := J11 @Bool.or_self @kill.eq_1 @kill.eq_2 @ptrV.eq_1 @encOp.eq_1 q1 q2 q3 q4 q5 q6
  all_goals (refine T.g rfl trivial rfl rfl fun Y Z => ?_; simp only [zz, simprocAttr, -Int.reduceNatCast', -Int.reduceToNat, q4q]; (refine ACalls.to (word_spec hg _ (by have := ho.type; omega)) ?_; rintro v1 σ1 ⟨hs1, rfl⟩; have hs1 := hs1.symm; subst hs1) <;> (refine Z _ _ ?_; clear Z Y))
  all_goals refine T.onf q4q ?_
  all_goals have q5q := J11 @Bool.or_self @kill.eq_1 @kill.eq_2 @ptrV.eq_1 @encOp.eq_1 q1 q2 q3 q4 q5 q6
  all_goals (refine T.g rfl trivial rfl rfl fun Y Z => ?_; simp only [zz, simprocAttr, -Int.reduceNatCast', -Int.reduceToNat, q5q]; (refine ACalls.to (condsT_spec hg _ ho.tl ho.tests) ?_; rintro v1 σ1 ⟨hs1, rfl⟩; have hs1 := hs1.symm; subst hs1) <;> (refine Z _ _ ?_; clear Z Y))
  all_goals iterate 2 refine T.onf q5q ?_
  all_goals have q6q := J11 @Bool.or_self @kill.eq_1 @kill.eq_2 @ptrV.eq_1 @encOp.eq_1 q1 q2 q3 q4 q5 q6
  all_goals (refine T.g rfl trivial rfl rfl fun Y Z => ?_; simp only [zz, simprocAttr, -Int.reduceNatCast', -Int.reduceToNat, q6q]; (refine ACalls.to (condsT_spec hg _ ho.cl ho.conds) ?_; rintro v1 σ1 ⟨hs1, rfl⟩; have hs1 := hs1.symm; subst hs1) <;> (refine Z _ _ ?_; clear Z Y))
  all_goals iterate 2 refine T.onf q6q ?_
  all_goals refine T.nil ?_
  all_goals simp only [ze, simprocAttr, q6q]
  all_goals ((try and_intros) <;> first | rfl | assumption | (rfl))
 rintro s σ1 ⟨hs1, e0, e2, e4, l4, e7⟩
 have hs1 := hs1.symm
 subst hs1
 have hksz := keyOp_size ho
 refine AW.seq_j (fun s' σ' => σ' = σ ∧ s'.t 0 = ptrV g ∧ s'.t 2 = .sl (f.map encI) ∧ s'.t 4 = .lp 4 0 ∧ s'.l 4 = some (encOp o) ∧ s'.t 7 = .c (.string (keyB o f))) ?_ ?_
 ·refine AW.sr (J6 e0 e2 e4 l4 e7 @List.length_map.{0,0}) ?_
  refine AW.block ?_   -- 0
  refine AW.loop (fun m s σ' => σ' = σ ∧ ∃ (i : Nat) (cur : ByteArray), m + i = f.length ∧ s.t 0 = ptrV g ∧ s.t 2 = .sl (f.map encI) ∧ s.t 4 = .lp 4 0 ∧ s.l 4 = some (encOp o) ∧ s.t 7 = .c (.string cur) ∧ s.t 33 = .sl (f.map encI) ∧ s.t 34 = .c (.int .i64 (f.length : Nat)) ∧ s.t 35 = .c (.int .i64 (i : Nat)) ∧ keyB o f = (f.drop i).foldl (fun k n => k ++ (sp ++ itoaB n)) cur ∧ cur.size ≤ 17592253186048 + i * 22) f.length ?_ ?_
  ·refine ⟨rfl, 0, keyOp o, by simp, ?_⟩
   simp only [zs, simprocAttr, -Int.reduceNatCast', -Int.reduceToNat, e0, e2, e4, l4, e7]
   exact ⟨rfl, rfl, by omega⟩
  clear e0 e2 e4 l4 e7 s
  rintro m s σ1 ⟨hs1, i, cur, hm, e0, e2, e4, l4, e7, e33, e34, e35, hp, hsz⟩
  have hs1 := hs1.symm
  subst hs1
  all_goals refine AW.sr (J2 e34 e35) ?_
  refine AW.seq_k fun K4 h4 => ?_
  refine AW.cond (b := decide (i < f.length)) (by simp [ev]) (fun hi => ?_) (fun hi => ?_)
  ·have hi := of_decide_eq_true hi
   obtain ⟨z, hz, hgx, hxm⟩ := int_nth hi
   have hx64 := hf z hxm
   have hw := wadd1 (a := i) (by omega)
   have hd : f.drop i = z :: f.drop (i + 1) := by rw [List.drop_eq_getElem_cons hi]; rw [List.getElem?_eq_getElem hi] at hz; cases hz; rfl
   rw [hd, List.foldl_cons] at hp
   have b1 := itoaB_size z hx64.1 hx64.2
   have q1 := le_true (a := sp) (n := (itoaB z).size) (by omega)
   have q2 := le_true (a := cur) (n := (sp ++ itoaB z).size) (by simp only [ByteArray.size_append]; omega)
   have hsz2 : (cur ++ (sp ++ itoaB z)).size ≤ 17592253186048 + (i + 1) * 22 := by simp only [ByteArray.size_append]; omega
   unfold itoaB sp at q1 q2
   refine AW.skip ?_
   all_goals simp only [zs, simprocAttr]
   all_goals apply_assumption
   refine AW.seq_j (fun s' σ' => σ' = σ ∧ s'.t 0 = ptrV g ∧ s'.t 2 = .sl (f.map encI) ∧ s'.t 4 = .lp 4 0 ∧ s'.l 4 = some (encOp o) ∧ s'.t 7 = .c (.string (cur ++ (sp ++ itoaB z))) ∧ s'.t 33 = .sl (f.map encI) ∧ s'.t 34 = .c (.int .i64 (f.length : Nat)) ∧ s'.t 35 = .c (.int .i64 (i : Nat))) ?_ ?_
   ·refine AW.block ?_   -- 1
    refine AW.sr (J7 e33 e34 e35 hi hgx @encI.eq_1 @List.length_map.{0,0}) ?_
    refine AW.reg0 ?_
    iterate 2 refine S.one (J10 e0 e2 e4 l4 e7 e33 e34 e35 q1 q2) ?_
    have q7q := J10 e0 e2 e4 l4 e7 e33 e34 e35 q1 q2
    (refine S.g rfl rfl fun Y Z => ?_; simp only [zz, simprocAttr, -Int.reduceNatCast', -Int.reduceToNat, q7q]; (refine ACalls.to (itoa_all hg _ hx64.1 hx64.2) ?_; rintro v1 σ1 ⟨hs1, rfl⟩; have hs1 := hs1.symm; subst hs1) <;> (refine Z _ _ ?_; clear Z Y))
    all_goals iterate 3 refine S.one q7q ?_
    all_goals refine S.nil ?_
    all_goals simp only [ze, simprocAttr, q7q]
    all_goals ((try and_intros) <;> first | rfl | assumption | (rfl))
   clear e0 e2 e4 l4 e7 e33 e34 e35 s
   rintro s σ1 ⟨hs1, e0, e2, e4, l4, e7, e33, e34, e35⟩
   have hs1 := hs1.symm
   subst hs1
   all_goals have q8q := J9 e0 e2 e4 l4 e7 e33 e34 e35 hw
   all_goals refine AW.reg0 (S.rn q8q ?_)
   all_goals simp only [ze, simprocAttr, q8q]
   refine ⟨m - 1, by omega, i + 1, cur ++ (sp ++ itoaB z), by omega, ?_⟩
   all_goals ((try and_intros) <;> first | rfl | assumption | (first | exact hp | exact hsz2))
  ·have hi := of_decide_eq_false hi
   refine AW.exit ?_
   simp only [zs, simprocAttr]
   rw [List.drop_of_length_le (by omega)] at hp
   rw [hp]
   exact ⟨e0, e2, e4, l4, e7⟩
 clear e0 e2 e4 l4 e7 s
 rintro s σ1 ⟨hs1, e0, e2, e4, l4, e7⟩
 have hs1 := hs1.symm
 subst hs1
 have im3 : isMap [uo, uf, V.c (.map (some gm))] = false := by cases uo <;> rfl
 refine AW.seq_j (fun s' σ' => σ' = σ ∧ s'.t 0 = ptrV g ∧ s'.t 2 = .sl (f.map encI) ∧ s'.t 4 = .lp 4 0 ∧ s'.l 4 = some (encOp o) ∧ s'.t 7 = .c (.string (keyB o f)) ∧ ((keyB o f ∉ ks ∧ s'.t 11 = .c (.bool false)) ∨ ∃ j : Nat, ks[j]? = some (keyB o f) ∧ (∀ q < j, ks[q]? ≠ some (keyB o f)) ∧ s'.t 10 = .c (.int .i64 (j : Nat)) ∧ s'.t 11 = .c (.bool true))) ?_ ?_
 ·rcases entKf_at (keyB o f) ks 0 0 with ⟨hn, hv⟩ | ⟨j, hj1, hj2, hv⟩
  ·replace hv : entV (entK ks) (.string (keyB o f)) 0 = none := hv
   refine AW.reg0 ?_
   iterate 5 refine S.one (J10 e0 e2 e4 l4 e7 @ptrV.eq_1 im3 hobj hmap hv) ?_
   have q9q := J10 e0 e2 e4 l4 e7 @ptrV.eq_1 im3 hobj hmap hv
   (refine S.g rfl rfl fun Y Z => ?_; simp only [zn, simprocAttr, -Int.reduceNatCast', -Int.reduceToNat, q9q]; refine ⟨_, _, _, Tryz.underlying74, KeyT.str Tryz.underlying9, rfl, entK_ok _, ?_⟩; (try simp only [tt, ofC, Option.some.injEq, exists_eq_left', zz, simprocAttr, -Int.reduceNatCast', -Int.reduceToNat, e0, e2, e4, l4, e7, ptrV, im3, hobj, hmap, hv]) <;> (refine Z _ _ ?_; clear Z Y))
   all_goals iterate 5 refine S.one q9q ?_
   all_goals refine S.nil ?_
   all_goals simp only [ze, simprocAttr, q9q]
   all_goals ((try and_intros) <;> first | rfl | assumption | (first | exact .inl hn | exact .inl ⟨hn, rfl⟩))
  ·replace hv : entV (entK ks) (.string (keyB o f)) 0 = some (j, .c (.int .i64 (j : Nat))) := by simpa [entK] using hv
   refine AW.reg0 ?_
   iterate 5 refine S.one (J10 e0 e2 e4 l4 e7 @ptrV.eq_1 im3 hobj hmap hv) ?_
   have q10q := J10 e0 e2 e4 l4 e7 @ptrV.eq_1 im3 hobj hmap hv
   (refine S.g rfl rfl fun Y Z => ?_; simp only [zn, simprocAttr, -Int.reduceNatCast', -Int.reduceToNat, q10q]; refine ⟨_, _, _, Tryz.underlying74, KeyT.str Tryz.underlying9, rfl, entK_ok _, ?_⟩; (try simp only [tt, ofC, Option.some.injEq, exists_eq_left', zz, simprocAttr, -Int.reduceNatCast', -Int.reduceToNat, e0, e2, e4, l4, e7, ptrV, im3, hobj, hmap, hv]) <;> (refine Z _ _ ?_; clear Z Y))
   all_goals iterate 5 refine S.one q10q ?_
   all_goals refine S.nil ?_
   all_goals simp only [ze, simprocAttr, q10q]
   all_goals ((try and_intros) <;> first | rfl | assumption | (first | exact .inr ⟨j, hj1, hj2, rfl⟩ | exact .inr ⟨j, hj1, hj2⟩ | exact ⟨j, hj1, hj2, rfl⟩))
 clear e0 e2 e4 l4 e7 s hksz
 rintro s σ1 ⟨hs1, e0, e2, e4, l4, e7, hcase⟩
 have hs1 := hs1.symm
 subst hs1
 rcases hcase with ⟨hn, e11⟩ | ⟨j, hj1, hj2, e10, e11⟩
 rotate_left
 ·have hput := putM_hit (o := o) (f := f) hx (hks ▸ hj1) (hks ▸ hj2)
  refine AW.seq_k fun K6 h6 => ?_
  refine AW.sr e11 ?_
  refine AW.cond (b := false) rfl (fun hc => by cases hc) (fun hc => ?_)
  refine AW.skip ?_
  all_goals simp only [zs, simprocAttr]
  all_goals apply_assumption
  all_goals refine AW.sr e10 ?_
  refine AW.ret ?_
  all_goals simp only [zs, simprocAttr]
  rw [hput]
  exact ⟨rfl, hH⟩
 have hput := putM_new (x := x) (o := o) (f := f) (hks ▸ hn)
 refine AW.seq_j (fun s' σ' => s'.t 10 = .c (.int .i64 (x.ops.length : Nat)) ∧ MkH tq g gm ⟨x.ops ++ [o], x.from_ ++ [f]⟩ σ') ?_ ?_
 rotate_left
 ·rintro s2 σ2 ⟨e10, hH2⟩
  refine AW.sr e10 ?_
  refine AW.ret ?_
  simp only [zs, simprocAttr]
  rw [hput]
  exact ⟨rfl, hH2⟩
 all_goals refine AW.sr e11 ?_
 refine AW.cond (b := true) rfl (fun hc => ?_) (fun hc => by cases hc)
 have hv : entV (entK ks) (.string (keyB o f)) 0 = none := by
  rcases entKf_at (keyB o f) ks 0 0 with ⟨_, hv⟩ | ⟨j, hj1, _⟩
  ·exact hv
  ·exact absurd (List.mem_of_getElem? hj1) hn
 have hup : entK ks ++ [.tup [.c (.string (keyB o f)), .c (.int .i64 (x.ops.length : Nat))]] = entK (ks ++ [keyB o f]) := by
  have := entKf_app (keyB o f) ks 0
  rw [Nat.zero_add, hkl] at this
  exact this
 have hkapp : keysOf ⟨x.ops ++ [o], x.from_ ++ [f]⟩ = ks ++ [keyB o f] := by rw [keysOf_app hx, hks]
 clear hobj hmap im3 uo uf
 rcases hH with ⟨ho0, hf0, rfl⟩ | ⟨ko, kf, hkk, rfl⟩
 ·rw [hks]
  have hl0 : x.ops.length = 0 := by rw [ho0]; rfl
  have im0 : isMap [V.c (.slice none 0 0), .c (.slice none 0 0), .c (.map (some gm))] = false := rfl
  have im1 : ∀ a : Nat, isMap [V.gl a, .c (.slice none 0 0), .c (.map (some gm))] = false := fun _ => rfl
  have hobj : (mkB tq g gm (.c (.slice none 0 0)) (.c (.slice none 0 0)) ks).obj g = some [.c (.slice none 0 0), .c (.slice none 0 0), .c (.map (some gm))] := by simp [mkB]
  have hmap : (mkB tq g gm (.c (.slice none 0 0)) (.c (.slice none 0 0)) ks).obj gm = some [.tup (entK ks)] := by simp [mkB, Ne.symm hgn]
  refine AW.seq_j (fun s' σ' => σ' = mkB tq g gm (.c (.slice none 0 0)) (.c (.slice none 0 0)) ks ∧ s'.t 0 = ptrV g ∧ s'.t 2 = .sl (f.map encI) ∧ s'.t 4 = .lp 4 0 ∧ s'.l 4 = some (encOp o) ∧ s'.t 7 = .c (.string (keyB o f)) ∧ s'.t 10 = .c (.int .i64 (x.ops.length : Nat))) ?_ ?_
  ·skip
   have q11q := J8 e0 e2 e4 l4 e7 @ptrV.eq_1 im0 hobj
   refine AW.reg0 (S.rn q11q ?_)
   simp only [ze, simprocAttr, q11q]
   all_goals ((try and_intros) <;> first | rfl | assumption | ((first | rfl | (rw [hl0]; rfl) | rw [hl0])))
  clear e0 e2 e4 l4 e7 e11 s
  rintro s σ1 ⟨hs1, e0, e2, e4, l4, e7, e10⟩
  subst hs1
  refine AW.seq_j (fun s' σ' => σ' = mkB tq g gm (.c (.slice none 0 0)) (.c (.slice none 0 0)) (ks ++ [keyB o f]) ∧ s'.t 0 = ptrV g ∧ s'.t 2 = .sl (f.map encI) ∧ s'.t 4 = .lp 4 0 ∧ s'.l 4 = some (encOp o) ∧ s'.t 10 = .c (.int .i64 (x.ops.length : Nat))) ?_ ?_
  ·skip
   refine AW.reg0 ?_
   iterate 6 refine S.one (J12 e0 e2 e4 l4 e7 e10 @ptrV.eq_1 im0 hobj hmap hv hup) ?_
   have q12q := J12 e0 e2 e4 l4 e7 e10 @ptrV.eq_1 im0 hobj hmap hv hup
   (refine S.g rfl rfl fun Y Z => ?_; simp only [zn, simprocAttr, -Int.reduceNatCast', -Int.reduceToNat, q12q]; refine ⟨_, _, _, Tryz.underlying74, KeyT.str Tryz.underlying9, rfl, entK_ok _, ?_⟩; (try simp only [tt, ofC, Option.some.injEq, exists_eq_left', zz, simprocAttr, -Int.reduceNatCast', -Int.reduceToNat, e0, e2, e4, l4, e7, e10, ptrV, im0, hobj, hmap, hv, hup]) <;> (refine Z _ _ ?_; clear Z Y))
   all_goals refine S.nil ?_
   all_goals simp only [ze, simprocAttr, q12q]
   all_goals ((try and_intros) <;> first | rfl | assumption | (exact Hp.eqs (fun j => by by_cases h1 : j = g <;> by_cases h2 : j = gm <;> by_cases h3 : j = 0 <;> simp_all [mkB]) (fun j => by simp [mkB])))
  clear e0 e2 e4 l4 e7 e10 s hobj hmap
  rintro s σ1 ⟨hs1, e0, e2, e4, l4, e10⟩
  subst hs1
  have hobj : (mkB tq g gm (.c (.slice none 0 0)) (.c (.slice none 0 0)) (ks ++ [keyB o f])).obj g = some [.c (.slice none 0 0), .c (.slice none 0 0), .c (.map (some gm))] := by simp [mkB]
  have y3 : (1 ≤ maxLen) = True := eq_true (by unfold maxLen; omega)
  have y4 : (104 ≤ reach) = True := eq_true (by unfold reach; omega)
  have y5 : (24 ≤ reach) = True := eq_true (by unfold reach; omega)
  have z1 := len_op1 o
  have z2 := len_f1 f
  simp only [encOp] at z1 l4
  refine AW.seq_j (fun s' σ' => s'.t 0 = ptrV g ∧ s'.t 2 = .sl (f.map encI) ∧ s'.t 10 = .c (.int .i64 (x.ops.length : Nat)) ∧ ∃ k1, σ' = (mkB tq g gm (.gl k1) (.c (.slice none 0 0)) (ks ++ [keyB o f])).setGr k1 (some ((41, 7), [encOp o]))) ?_ ?_
  ·generalize hsg : mkB tq g gm (.c (.slice none 0 0)) (.c (.slice none 0 0)) (ks ++ [keyB o f]) = σ5 at hobj ⊢
   refine AW.dT { sd := fun _ => false } (.st 0 0 (.st 1 0 (.st 2 0 (.st 3 0 (.st 4 0 (.fork 5 (.st 6 2 (.st 7 2 (.st 8 2 (.st 9 0 (.st 10 0 (.st 11 0 (.st 12 2 .nil))))))) 6 (.fork 5 (.st 7 2 (.st 8 2 (.st 9 0 (.st 10 0 (.st 11 0 (.st 12 2 .nil)))))) 7 (.st 5 2 (.st 8 2 (.st 9 0 (.st 10 0 (.st 11 0 (.st 12 2 .nil))))))))))))) ?_
   all_goals iterate 5 refine T.one (J11 im0 e0 e2 e4 l4 e10 @ptrV.eq_1 hobj z1 y3 y4) ?_
   all_goals (try refine T.fork ?_ ?_)
   all_goals have q13q := J11 im0 e0 e2 e4 l4 e10 @ptrV.eq_1 hobj z1 y3 y4
   all_goals first | (refine T.g rfl trivial rfl rfl fun Y Z => ?_; simp only [zz, simprocAttr, -Int.reduceNatCast', -Int.reduceToNat, tt, q13q]; refine Z _ _ ?_; clear Z Y) | (refine T.g rfl trivial rfl rfl fun Y Z => ?_; simp only [zz, simprocAttr, -Int.reduceNatCast', -Int.reduceToNat, tt, q13q]; refine Z _ _ ?_; clear Z Y)
   all_goals (try refine T.fork ?_ ?_)
   all_goals have q14q := J11 im0 e0 e2 e4 l4 e10 @ptrV.eq_1 hobj z1 y3 y4
   all_goals first | (refine T.g rfl trivial rfl rfl fun Y Z => ?_; simp only [zz, simprocAttr, -Int.reduceNatCast', -Int.reduceToNat, tt, q14q]; refine Z _ _ ?_; clear Z Y) | (refine T.g rfl trivial rfl rfl fun Y Z => ?_; simp only [zz, simprocAttr, -Int.reduceNatCast', -Int.reduceToNat, tt, q14q]; refine Z _ _ ?_; clear Z Y) | (refine T.g rfl trivial rfl rfl fun Y Z => ?_; simp only [zb, simprocAttr, -Int.reduceNatCast', -Int.reduceToNat, tt, im0, e0, e2, e4, l4, e10, ptrV, hobj, z1, y3, y4]; refine Z _ _ ?_; clear Z Y)
   all_goals first | (refine T.g rfl trivial rfl rfl fun Y Z => ?_; simp only [zb, simprocAttr, -Int.reduceNatCast', -Int.reduceToNat, tt, im0, e0, e2, e4, l4, e10, ptrV, hobj, z1, y3, y4]; refine Z _ _ ?_; clear Z Y) | (refine T.g rfl trivial rfl rfl fun Y Z => ?_; simp only [zz, simprocAttr, -Int.reduceNatCast', -Int.reduceToNat, tt, im0, e0, e2, e4, l4, e10, ptrV, hobj, z1, y3, y4]; refine Z _ _ ?_; clear Z Y)
   all_goals have q15q := J11 im0 e0 e2 e4 l4 e10 @ptrV.eq_1 hobj z1 y3 y4
   all_goals (refine T.g rfl trivial rfl rfl fun Y Z => ?_; simp only [zz, simprocAttr, -Int.reduceNatCast', -Int.reduceToNat, tt, q15q]; intro k1 hk1 <;> (refine Z _ _ ?_; clear Z Y))
   all_goals iterate 4 refine T.one q15q ?_
   all_goals refine T.nil ?_
   all_goals simp only [ze, simprocAttr, q15q]
   all_goals
    subst hsg
    exact ⟨k1, Hp.eqs (fun j => by by_cases h1 : j = g <;> by_cases h2 : j = gm <;> by_cases h3 : j = 0 <;> simp_all [mkB, Hp.empty]) (fun j => by by_cases h1 : j = k1 <;> simp_all [mkB, encOp, Hp.empty])⟩
  clear e0 e2 e4 l4 e10 s hobj
  rintro s σ1 ⟨e0, e2, e10, k1, hs1⟩
  subst hs1
  have hobj2 : ((mkB tq g gm (.gl k1) (.c (.slice none 0 0)) (ks ++ [keyB o f])).setGr k1 (some ((41, 7), [encOp o]))).obj g = some [.gl k1, .c (.slice none 0 0), .c (.map (some gm))] := by simp [mkB]
  generalize hsg : (mkB tq g gm (.gl k1) (.c (.slice none 0 0)) (ks ++ [keyB o f])).setGr k1 (some ((41, 7), [encOp o])) = σ5 at hobj2 ⊢
  all_goals refine AW.reg0 ?_
  all_goals iterate 8 (refine S.g rfl rfl fun Y Z => ?_; simp only [zb, simprocAttr, -Int.reduceNatCast', -Int.reduceToNat, tt, im1, e0, e2, e10, ptrV, hobj2, z2, y3, y5]; refine Z _ _ ?_; clear Z Y)
  all_goals have q16q := J9 im1 e0 e2 e10 @ptrV.eq_1 hobj2 z2 y3 y5
  all_goals (refine S.g rfl rfl fun Y Z => ?_; simp only [zz, simprocAttr, -Int.reduceNatCast', -Int.reduceToNat, tt, q16q]; intro k2 hk2 <;> (refine Z _ _ ?_; clear Z Y))
  all_goals iterate 4 refine S.one q16q ?_
  all_goals refine S.nil ?_
  all_goals simp only [ze, simprocAttr, q16q]
  subst hsg
  have hkk2 : ¬ k1 = k2 := fun e => by subst e; simp at hk2
  refine .inr ⟨k1, k2, hkk2, ?_⟩
  rw [hkapp, ho0, hf0]
  exact Hp.eqs (fun j => by by_cases h1 : j = g <;> by_cases h2 : j = gm <;> by_cases h3 : j = 0 <;> simp_all [mkP, mkB, Hp.empty]) (fun j => by by_cases h1 : j = k1 <;> by_cases h3 : j = k2 <;> simp_all [mkP, mkB, encF, Hp.empty])
 ·rw [hks]
  have im4 : ∀ a b : Nat, isMap [V.gl a, .gl b, .c (.map (some gm))] = false := fun _ _ => rfl
  have hobj : (mkP tq g gm ko kf x ks).obj g = some [.gl ko, .gl kf, .c (.map (some gm))] := by simp [mkP, mkB]
  have hmap : (mkP tq g gm ko kf x ks).obj gm = some [.tup (entK ks)] := by simp [mkP, mkB, Ne.symm hgn]
  have hgr : (mkP tq g gm ko kf x ks).gr ko = some ((41, 7), x.ops.map encOp) := by simp [mkP, hkk]
  refine AW.seq_j (fun s' σ' => σ' = mkP tq g gm ko kf x ks ∧ s'.t 0 = ptrV g ∧ s'.t 2 = .sl (f.map encI) ∧ s'.t 4 = .lp 4 0 ∧ s'.l 4 = some (encOp o) ∧ s'.t 7 = .c (.string (keyB o f)) ∧ s'.t 10 = .c (.int .i64 (x.ops.length : Nat))) ?_ ?_
  ·skip
   have q17q := J10 e0 e2 e4 l4 e7 @ptrV.eq_1 im4 hobj hgr @List.length_map.{0,0}
   refine AW.reg0 (S.rn q17q ?_)
   simp only [ze, simprocAttr, q17q]
   all_goals ((try and_intros) <;> first | rfl | assumption | (rfl))
  clear e0 e2 e4 l4 e7 e11 s
  rintro s σ1 ⟨hs1, e0, e2, e4, l4, e7, e10⟩
  subst hs1
  refine AW.seq_j (fun s' σ' => σ' = mkP tq g gm ko kf x (ks ++ [keyB o f]) ∧ s'.t 0 = ptrV g ∧ s'.t 2 = .sl (f.map encI) ∧ s'.t 4 = .lp 4 0 ∧ s'.l 4 = some (encOp o) ∧ s'.t 10 = .c (.int .i64 (x.ops.length : Nat))) ?_ ?_
  ·skip
   refine AW.reg0 ?_
   iterate 6 refine S.one (J12 e0 e2 e4 l4 e7 e10 @ptrV.eq_1 im4 hobj hmap hv hup) ?_
   have q18q := J12 e0 e2 e4 l4 e7 e10 @ptrV.eq_1 im4 hobj hmap hv hup
   (refine S.g rfl rfl fun Y Z => ?_; simp only [zn, simprocAttr, -Int.reduceNatCast', -Int.reduceToNat, q18q]; refine ⟨_, _, _, Tryz.underlying74, KeyT.str Tryz.underlying9, rfl, entK_ok _, ?_⟩; (try simp only [tt, ofC, Option.some.injEq, exists_eq_left', zz, simprocAttr, -Int.reduceNatCast', -Int.reduceToNat, e0, e2, e4, l4, e7, e10, ptrV, im4, hobj, hmap, hv, hup]) <;> (refine Z _ _ ?_; clear Z Y))
   all_goals refine S.nil ?_
   all_goals simp only [ze, simprocAttr, q18q]
   all_goals ((try and_intros) <;> first | rfl | assumption | (exact Hp.eqs (fun j => by by_cases h1 : j = g <;> by_cases h2 : j = gm <;> by_cases h3 : j = 0 <;> simp_all [mkP, mkB]) (fun j => by simp [mkP, mkB])))
  clear e0 e2 e4 l4 e7 e10 s hobj hmap hgr
  rintro s σ1 ⟨hs1, e0, e2, e4, l4, e10⟩
  subst hs1
  have hobj : (mkP tq g gm ko kf x (ks ++ [keyB o f])).obj g = some [.gl ko, .gl kf, .c (.map (some gm))] := by simp [mkP, mkB]
  have hgr : (mkP tq g gm ko kf x (ks ++ [keyB o f])).gr ko = some ((41, 7), x.ops.map encOp) := by simp [mkP, hkk]
  have y1 : (x.ops.length + 1 ≤ maxLen) = True := eq_true (by unfold maxLen; omega)
  have y2 : ((x.ops.length + 1) * 104 ≤ reach) = True := eq_true (by unfold reach; omega)
  have y6 : (x.from_.length + 1 ≤ maxLen) = True := eq_true (by unfold maxLen; omega)
  have y7 : ((x.from_.length + 1) * 24 ≤ reach) = True := eq_true (by unfold reach; omega)
  have y3 : (1 ≤ maxLen) = True := eq_true (by unfold maxLen; omega)
  have y4 : (104 ≤ reach) = True := eq_true (by unfold reach; omega)
  have y5 : (24 ≤ reach) = True := eq_true (by unfold reach; omega)
  have z1 := len_op1 o
  have z2 := len_f1 f
  simp only [encOp] at z1 l4
  refine AW.seq_j (fun s' σ' => s'.t 0 = ptrV g ∧ s'.t 2 = .sl (f.map encI) ∧ s'.t 10 = .c (.int .i64 (x.ops.length : Nat)) ∧ ∃ k1, ¬ k1 = kf ∧ σ' = mkP tq g gm k1 kf ⟨x.ops ++ [o], x.from_⟩ (ks ++ [keyB o f])) ?_ ?_
  ·generalize hsg : mkP tq g gm ko kf x (ks ++ [keyB o f]) = σ5 at hobj hgr ⊢
   refine AW.dT { sd := fun _ => false } (.st 0 0 (.st 1 0 (.st 2 0 (.st 3 0 (.st 4 0 (.fork 5 (.st 6 2 (.st 7 2 (.st 8 2 (.st 9 0 (.st 10 0 (.st 11 0 (.st 12 2 .nil))))))) 6 (.fork 5 (.st 7 2 (.st 8 2 (.st 9 0 (.st 10 0 (.st 11 0 (.st 12 2 .nil)))))) 7 (.st 5 2 (.st 8 2 (.st 9 0 (.st 10 0 (.st 11 0 (.st 12 2 .nil))))))))))))) ?_
   all_goals iterate 5 refine T.one (J12 im4 e0 e2 e4 l4 e10 @ptrV.eq_1 hobj hgr z1 y1 (J4 y2 y3 y4 @List.length_map.{0,0})) ?_
   all_goals (try refine T.fork ?_ ?_)
   all_goals have q19q := J12 im4 e0 e2 e4 l4 e10 @ptrV.eq_1 hobj hgr z1 y1 (J4 y2 y3 y4 @List.length_map.{0,0})
   all_goals first | (refine T.g rfl trivial rfl rfl fun Y Z => ?_; simp only [zz, simprocAttr, -Int.reduceNatCast', -Int.reduceToNat, tt, q19q]; refine Z _ _ ?_; clear Z Y) | (refine T.g rfl trivial rfl rfl fun Y Z => ?_; simp only [zz, simprocAttr, -Int.reduceNatCast', -Int.reduceToNat, tt, q19q]; refine Z _ _ ?_; clear Z Y)
   all_goals (try refine T.fork ?_ ?_)
   all_goals have q20q := J12 im4 e0 e2 e4 l4 e10 @ptrV.eq_1 hobj hgr z1 y1 (J4 y2 y3 y4 @List.length_map.{0,0})
   all_goals first | (refine T.g rfl trivial rfl rfl fun Y Z => ?_; simp only [zz, simprocAttr, -Int.reduceNatCast', -Int.reduceToNat, tt, q20q]; refine Z _ _ ?_; clear Z Y) | (refine T.g rfl trivial rfl rfl fun Y Z => ?_; simp only [zz, simprocAttr, -Int.reduceNatCast', -Int.reduceToNat, tt, q20q]; refine Z _ _ ?_; clear Z Y) | (refine T.g rfl trivial rfl rfl fun Y Z => ?_; simp only [zb, simprocAttr, -Int.reduceNatCast', -Int.reduceToNat, tt, im4, e0, e2, e4, l4, e10, ptrV, hobj, hgr, z1, y1, y2, y3, y4, List.length_map]; refine Z _ _ ?_; clear Z Y)
   all_goals first | (refine T.g rfl trivial rfl rfl fun Y Z => ?_; simp only [zb, simprocAttr, -Int.reduceNatCast', -Int.reduceToNat, tt, im4, e0, e2, e4, l4, e10, ptrV, hobj, hgr, z1, y1, y2, y3, y4, List.length_map]; refine Z _ _ ?_; clear Z Y) | (refine T.g rfl trivial rfl rfl fun Y Z => ?_; simp only [zz, simprocAttr, -Int.reduceNatCast', -Int.reduceToNat, tt, im4, e0, e2, e4, l4, e10, ptrV, hobj, hgr, z1, y1, y2, y3, y4, List.length_map]; refine Z _ _ ?_; clear Z Y)
   all_goals have q21q := J12 im4 e0 e2 e4 l4 e10 @ptrV.eq_1 hobj hgr z1 y1 (J4 y2 y3 y4 @List.length_map.{0,0})
   all_goals (refine T.g rfl trivial rfl rfl fun Y Z => ?_; simp only [zz, simprocAttr, -Int.reduceNatCast', -Int.reduceToNat, tt, q21q]; intro k1 hk1 <;> (refine Z _ _ ?_; clear Z Y))
   all_goals iterate 4 refine T.one q21q ?_
   all_goals refine T.nil ?_
   all_goals simp only [ze, simprocAttr, q21q]
   all_goals
    subst hsg
    have hk1' : ¬ k1 = kf := fun e => by subst e; simp [mkP, Ne.symm hkk] at hk1
    exact ⟨k1, hk1', Hp.eqs (fun j => by by_cases h1 : j = g <;> by_cases h2 : j = gm <;> by_cases h3 : j = 0 <;> simp_all [mkP, mkB, Hp.empty]) (fun j => by by_cases h1 : j = k1 <;> by_cases h2 : j = kf <;> by_cases h3 : j = ko <;> simp_all [mkP, mkB, encOp, List.map_append, Hp.empty])⟩
  clear e0 e2 e4 l4 e10 s hobj hgr
  rintro s σ1 ⟨e0, e2, e10, k1, hkk1, hs1⟩
  subst hs1
  have hobj2 : (mkP tq g gm k1 kf ⟨x.ops ++ [o], x.from_⟩ (ks ++ [keyB o f])).obj g = some [.gl k1, .gl kf, .c (.map (some gm))] := by simp [mkP, mkB]
  have hgf2 : (mkP tq g gm k1 kf ⟨x.ops ++ [o], x.from_⟩ (ks ++ [keyB o f])).gr kf = some ((48, 1), x.from_.map encF) := by simp [mkP]
  generalize hsg : mkP tq g gm k1 kf ⟨x.ops ++ [o], x.from_⟩ (ks ++ [keyB o f]) = σ5 at hobj2 hgf2 ⊢
  all_goals refine AW.reg0 ?_
  all_goals iterate 8 (refine S.g rfl rfl fun Y Z => ?_; simp only [zb, simprocAttr, -Int.reduceNatCast', -Int.reduceToNat, tt, im4, e0, e2, e10, ptrV, hobj2, hgf2, z2, y3, y5, y6, y7, List.length_map]; refine Z _ _ ?_; clear Z Y)
  all_goals have q22q := J12 im4 e0 e2 e10 @ptrV.eq_1 hobj2 hgf2 z2 y3 y5 y6 (J2 y7 @List.length_map.{0,0})
  all_goals (refine S.g rfl rfl fun Y Z => ?_; simp only [zz, simprocAttr, -Int.reduceNatCast', -Int.reduceToNat, tt, q22q]; intro k2 hk2 <;> (refine Z _ _ ?_; clear Z Y))
  all_goals iterate 4 refine S.one q22q ?_
  all_goals refine S.nil ?_
  all_goals simp only [ze, simprocAttr, q22q]
  subst hsg
  have hkk2 : ¬ k1 = k2 := fun e => by subst e; simp [mkP, hkk1] at hk2
  refine .inr ⟨k1, k2, hkk2, ?_⟩
  rw [hkapp]
  exact Hp.eqs (fun j => by by_cases h1 : j = g <;> by_cases h2 : j = gm <;> by_cases h3 : j = 0 <;> simp_all [mkP, mkB, Hp.empty]) (fun j => by by_cases h1 : j = k1 <;> by_cases h2 : j = kf <;> by_cases h3 : j = k2 <;> simp_all [mkP, mkB, encF, List.map_append, Hp.empty])
def tells (x : Pln) (o : OpS) (f : List Int) : Prop := ∀ (i : Nat) (a : OpS) (h : List Int), x.ops[i]? = some a → x.from_[i]? = some h → (keyB a h = keyB o f ↔ (sameOp a o && allEq eqI h f) = true)
theorem put_same {x : Pln} {o : OpS} {f : List Int} (hx : x.from_.length = x.ops.length) (ht : tells x o f) : putM x o f = putPl x o f := by
  have hp : ∀ i ∈ List.range x.ops.length, decide ((keysOf x)[i]? = some (keyB o f)) = hitP x o f i := fun i hi => by
    have hi := List.mem_range.1 hi
    have hi2 : i < x.from_.length := by omega
    have h1 : x.ops[i]? = some x.ops[i] := List.getElem?_eq_getElem hi
    have h2 : x.from_[i]? = some x.from_[i] := List.getElem?_eq_getElem hi2
    have hk : (keysOf x)[i]? = some (keyB x.ops[i] x.from_[i]) := by simp [keysOf, List.getElem?_zipWith, h1, h2]
    have := ht i _ _ h1 h2
    rw [hk, hitP, h1, h2, Bool.eq_iff_iff, decide_eq_true_eq, Option.some.injEq]
    exact this
  have hf : (List.range x.ops.length).find? (fun i => decide ((keysOf x)[i]? = some (keyB o f))) = (List.range x.ops.length).find? (hitP x o f) := by
    generalize List.range x.ops.length = r at hp
    induction r with
    | nil => rfl
    | cons i r ih =>
      rw [List.find?_cons, List.find?_cons, hp i List.mem_cons_self]
      cases hitP x o f i
      · exact ih fun j hj => hp j (List.mem_cons_of_mem _ hj)
      · rfl
  rw [putM, putPl, hf]
  all_goals generalize (List.range x.ops.length).find? (hitP x o f) = r
  all_goals cases r <;> rfl
def digC (c : UInt8) : Bool := (48 ≤ c.toNat && c.toNat ≤ 57) || c.toNat == 45
theorem decDigits_dig : ∀ (u : Nat), ∀ c ∈ Lib.decDigits u, 48 ≤ c.toNat ∧ c.toNat ≤ 57 := by
  intro u
  induction u using Nat.strongRecOn with
  | _ u ih =>
    intro c hc
    rw [Lib.decDigits] at hc
    split at hc
    · rename_i h
      simp at hc
      subst hc
      simp
      omega
    · rename_i h
      rcases List.mem_append.1 hc with hc | hc
      · exact ih (u / 10) (by omega) c hc
      · simp at hc
        subst hc
        have := Nat.mod_lt u (show 0 < 10 by omega)
        simp
        omega
def readD (l : List UInt8) : Nat := l.foldl (fun n c => n * 10 + (c.toNat - 48)) 0
theorem readD_dec : ∀ (u : Nat), readD (Lib.decDigits u) = u := by
  intro u
  induction u using Nat.strongRecOn with
  | _ u ih =>
    rw [Lib.decDigits]
    split
    · rename_i h
      simp [readD]
      omega
    · rename_i h
      have := Nat.mod_lt u (show 0 < 10 by omega)
      have h1 := ih (u / 10) (by omega)
      rw [readD] at h1 ⊢
      rw [List.foldl_append, h1]
      simp
      omega
theorem decDigits_inj {u v : Nat} (h : Lib.decDigits u = Lib.decDigits v) : u = v := by
 rw [← readD_dec u, h, readD_dec]
theorem itoa_dig (n : Int) : ∀ c ∈ Lib.itoa n, digC c = true := by
 intro c hc
 rw [Lib.itoa] at hc
 have hd : ∀ u, c ∈ Lib.decDigits u → digC c = true := fun u h => by
  have := decDigits_dig u c h
  simp [digC, this.1, this.2]
 split at hc
 ·rcases List.mem_cons.1 hc with rfl | hc
  ·rfl
  ·exact hd _ hc
 ·exact hd _ hc
theorem itoa_inj {m n : Int} (h : Lib.itoa m = Lib.itoa n) : m = n := by
 have no : ∀ (u : Nat) (r : List UInt8), Lib.decDigits u ≠ 45 :: r := fun u r e => by
  have := decDigits_dig u 45 (by rw [e]; exact List.mem_cons_self)
  simp at this
 rw [Lib.itoa, Lib.itoa] at h
 split at h <;> split at h
 ·have := decDigits_inj (List.cons.inj h).2
  omega
 ·exact absurd h.symm (no _ _)
 ·exact absurd h (no _ _)
 ·have := decDigits_inj h
  omega
def noD (x : List UInt8) : Prop := ∀ c r, x = c :: r → digC c = false
theorem num_cut : ∀ {a b x y : List UInt8}, (∀ c ∈ a, digC c = true) → (∀ c ∈ b, digC c = true) → noD x → noD y → a ++ x = b ++ y → a = b ∧ x = y
  | [], [], _, _, _, _, _, _, h => ⟨rfl, h⟩
  | [], c :: b, x, y, _, hb, hx, _, h => by
    have := hx c (b ++ y) h
    rw [hb c List.mem_cons_self] at this; cases this
  | c :: a, [], x, y, ha, _, _, hy, h => by
    have := hy c (a ++ x) h.symm
    rw [ha c List.mem_cons_self] at this; cases this
  | c :: a, d :: b, x, y, ha, hb, hx, hy, h => by
    rw [List.cons_append, List.cons_append] at h
    obtain ⟨hcd, h2⟩ := List.cons.inj h
    obtain ⟨hab, h3⟩ := num_cut (fun e he => ha e (List.mem_cons_of_mem _ he)) (fun e he => hb e (List.mem_cons_of_mem _ he)) hx hy h2
    exact ⟨by rw [hcd, hab], h3⟩
theorem itoa_cut {m n : Int} {x y : List UInt8} (hx : noD x) (hy : noD y) (h : Lib.itoa m ++ x = Lib.itoa n ++ y) : m = n ∧ x = y := by
 obtain ⟨h1, h2⟩ := num_cut (itoa_dig m) (itoa_dig n) hx hy h
 exact ⟨itoa_inj h1, h2⟩
def wordL (s : List UInt8) : List UInt8 := Lib.itoa s.length ++ 58 :: s
theorem noD_cons {c : UInt8} (h : digC c = false) (r : List UInt8) : noD (c :: r) := fun d q e => by
 obtain ⟨rfl, _⟩ := List.cons.inj e; exact h
theorem word_cut {s t x y : List UInt8} (h : wordL s ++ x = wordL t ++ y) : s = t ∧ x = y := by
 simp only [wordL, List.append_assoc, List.cons_append] at h
 obtain ⟨h1, h2⟩ := itoa_cut (noD_cons rfl _) (noD_cons rfl _) h
 have h3 := (List.cons.inj h2).2
 exact List.append_inj h3 (by omega)
theorem toL (a b : ByteArray) : (a ++ b).toList = a.toList ++ b.toList := by
 rw [ByteArray.toList_eq, ByteArray.toList_eq, ByteArray.toList_eq]; simp
theorem toL_bytes (l : List UInt8) : (bytesOf l).toList = l := by rw [ByteArray.toList_eq]; simp [bytesOf]
theorem toL_inj {a b : ByteArray} (h : a.toList = b.toList) : a = b := eqS_iff.1 (by rw [eqS, h]; simp)
theorem toL_size (a : ByteArray) : a.toList.length = a.size := by rw [ByteArray.toList_eq]; rfl
theorem wordB_L (s : ByteArray) : (wordB s).toList = wordL s.toList := by
 rw [wordB, toL, toL, itoaB, toL_bytes, wordL, toL_size]
 have : (⟨#[58]⟩ : ByteArray).toList = [58] := by rw [ByteArray.toList_eq]
 rw [this]; simp
theorem sp_L : sp.toList = [32] := by rw [sp, ByteArray.toList_eq]
theorem opdB_L (o : Opd) : (opdB o).toList = 32 :: (wordL o.var.toList ++ (wordL o.attr.toList ++ (Lib.itoa o.v.kind ++ (32 :: (Lib.itoa o.v.n ++ (32 :: wordL o.v.s.toList)))))) := by
 simp only [opdB, toL, wordB_L, sp_L, itoaB, toL_bytes, List.append_assoc, List.cons_append, List.nil_append]
theorem opd_ext {o p : Opd} (h1 : o.var = p.var) (h2 : o.attr = p.attr) (h3 : o.v.kind = p.v.kind) (h4 : o.v.n = p.v.n) (h5 : o.v.s = p.v.s) : o = p := by
 obtain ⟨a, b, ⟨c, d, e⟩⟩ := o
 obtain ⟨a', b', ⟨c', d', e'⟩⟩ := p
 simp only at h1 h2 h3 h4 h5
 subst h1 h2 h3 h4 h5
 rfl
theorem opd_cut {o p : Opd} {x y : List UInt8} (h : (opdB o).toList ++ x = (opdB p).toList ++ y) : o = p ∧ x = y := by
 rw [opdB_L, opdB_L] at h
 simp only [List.cons_append, List.append_assoc] at h
 have h := (List.cons.inj h).2
 obtain ⟨e1, h⟩ := word_cut h
 obtain ⟨e2, h⟩ := word_cut h
 obtain ⟨e3, h⟩ := itoa_cut (noD_cons rfl _) (noD_cons rfl _) h
 have h := (List.cons.inj h).2
 obtain ⟨e4, h⟩ := itoa_cut (noD_cons rfl _) (noD_cons rfl _) h
 have h := (List.cons.inj h).2
 obtain ⟨e5, h⟩ := word_cut h
 exact ⟨opd_ext (toL_inj e1) (toL_inj e2) e3 e4 (toL_inj e5), h⟩
def condL (c : Cnd) : List UInt8 := (opdB c.l).toList ++ ((opdB c.r).toList ++ (32 :: Lib.itoa c.rel))
theorem stepB_L (s : ByteArray) (c : Cnd) : (stepB s c).toList = s.toList ++ condL c := by
 simp only [stepB, condL, toL, sp_L, itoaB, toL_bytes, List.append_assoc, List.cons_append, List.nil_append]
theorem fold_L : ∀ (l : List Cnd) (s : ByteArray), (l.foldl stepB s).toList = s.toList ++ (l.map condL).flatten
 | [], s => by simp
 | c :: l, s => by rw [List.foldl_cons, fold_L l, stepB_L, List.map_cons, List.flatten_cons, List.append_assoc]
theorem condsB_L (l : List Cnd) : (condsB l).toList = Lib.itoa l.length ++ (l.map condL).flatten := by
 rw [condsB, fold_L, itoaB, toL_bytes]
theorem condL_noD (c : Cnd) (r : List UInt8) : noD (condL c ++ r) := by
 rw [condL, opdB_L]
 exact noD_cons rfl _
theorem flat_noD {l : List Cnd} {x : List UInt8} (hx : noD x) : noD ((l.map condL).flatten ++ x) := by
 cases l with
 | nil => exact hx
 | cons c l => rw [List.map_cons, List.flatten_cons, List.append_assoc]; exact condL_noD c _
theorem cond_cut {c d : Cnd} {x y : List UInt8} (hx : noD x) (hy : noD y) (h : condL c ++ x = condL d ++ y) : c = d ∧ x = y := by
 simp only [condL, List.append_assoc, List.cons_append] at h
 obtain ⟨e1, h⟩ := opd_cut h
 obtain ⟨e2, h⟩ := opd_cut h
 have h := (List.cons.inj h).2
 obtain ⟨e3, h9⟩ := itoa_cut hx hy h
 clear h
 obtain ⟨a, b, c'⟩ := c
 obtain ⟨a', b', d'⟩ := d
 simp only at e1 e2 e3
 subst e1 e2 e3
 exact ⟨rfl, h9⟩
theorem flat_cut : ∀ {l m : List Cnd} {x y : List UInt8}, l.length = m.length → noD x → noD y → (l.map condL).flatten ++ x = (m.map condL).flatten ++ y → l = m ∧ x = y
  | [], [], _, _, _, _, _, h => ⟨rfl, h⟩
  | c :: l, d :: m, x, y, hl, hx, hy, h => by
    simp only [List.map_cons, List.flatten_cons, List.append_assoc] at h
    obtain ⟨e1, h⟩ := cond_cut (flat_noD hx) (flat_noD hy) h
    obtain ⟨e2, h⟩ := flat_cut (by simpa using hl) hx hy h
    exact ⟨by rw [e1, e2], h⟩
theorem conds_cut {l m : List Cnd} {x y : List UInt8} (hx : noD x) (hy : noD y) (h : (condsB l).toList ++ x = (condsB m).toList ++ y) : l = m ∧ x = y := by
 rw [condsB_L, condsB_L, List.append_assoc, List.append_assoc] at h
 obtain ⟨e1, h⟩ := itoa_cut (flat_noD hx) (flat_noD hy) h
 exact flat_cut (by omega) hx hy h
def intL (n : Int) : List UInt8 := 32 :: Lib.itoa n
theorem fold_int : ∀ (f : List Int) (k : ByteArray), (f.foldl (fun k n => k ++ (sp ++ itoaB n)) k).toList = k.toList ++ (f.map intL).flatten
  | [], k => by simp
  | n :: f, k => by
    rw [List.foldl_cons, fold_int f, toL, toL, sp_L, itoaB, toL_bytes, List.map_cons, List.flatten_cons, intL, List.append_assoc]
    simp
theorem keyB_L (o : OpS) (f : List Int) : (keyB o f).toList = Lib.itoa o.kind ++ (32 :: (wordL o.var.toList ++ (wordL o.type.toList ++ ((condsB o.tests).toList ++ (47 :: ((condsB o.conds).toList ++ (f.map intL).flatten)))))) := by
 have h47 : (⟨#[47]⟩ : ByteArray).toList = [47] := by rw [ByteArray.toList_eq]
 rw [keyB, fold_int]
 simp only [keyOp, toL, wordB_L, sp_L, itoaB, toL_bytes, h47, List.append_assoc, List.cons_append, List.nil_append]
theorem ints_noD (f : List Int) : noD (f.map intL).flatten := by
 cases f with
 | nil => intro c r e; cases e
 | cons n f => exact noD_cons rfl _
theorem ints_inj : ∀ {f h : List Int}, (f.map intL).flatten = (h.map intL).flatten → f = h
  | [], [], _ => rfl
  | [], n :: h, e => by simp [intL] at e
  | n :: f, [], e => by simp [intL] at e
  | n :: f, m :: h, e => by
    simp only [List.map_cons, List.flatten_cons, intL, List.cons_append] at e
    have e1 := (List.cons.inj e).2
    obtain ⟨e2, e3⟩ := itoa_cut (ints_noD f) (ints_noD h) e1
    rw [e2, ints_inj e3]
structure alike (a o : OpS) : Prop where
  kind : a.kind = o.kind
  var : a.var = o.var
  type : a.type = o.type
  tests : a.tests = o.tests
  conds : a.conds = o.conds
theorem key_inj {a o : OpS} {h f : List Int} (e : keyB a h = keyB o f) : alike a o ∧ h = f := by
 have e := congrArg ByteArray.toList e
 rw [keyB_L, keyB_L] at e
 obtain ⟨e1, e⟩ := itoa_cut (noD_cons rfl _) (noD_cons rfl _) e
 have e := (List.cons.inj e).2
 obtain ⟨e2, e⟩ := word_cut e
 obtain ⟨e3, e⟩ := word_cut e
 obtain ⟨e4, e⟩ := conds_cut (noD_cons rfl _) (noD_cons rfl _) e
 have e := (List.cons.inj e).2
 obtain ⟨e5, e⟩ := conds_cut (ints_noD h) (ints_noD f) e
 exact ⟨⟨e1, toL_inj e2, toL_inj e3, e4, e5⟩, ints_inj e⟩
theorem eqC_iff {a b : Cnd} : eqC a b = true ↔ a = b := by
 constructor
 ·intro h
  simp only [eqC, Bool.and_eq_true, beq_iff_eq, eqS_iff] at h
  obtain ⟨h1, h2, h3, h4, h5, h6, h7, h8, h9, h10, h11⟩ := h
  obtain ⟨⟨a1, a2, ⟨a3, a4, a5⟩⟩, a6, ⟨a7, a8, ⟨a9, a10, a11⟩⟩⟩ := a
  obtain ⟨⟨b1, b2, ⟨b3, b4, b5⟩⟩, b6, ⟨b7, b8, ⟨b9, b10, b11⟩⟩⟩ := b
  simp only at h1 h2 h3 h4 h5 h6 h7 h8 h9 h10 h11
  subst h1 h2 h3 h4 h5 h6 h7 h8 h9 h10 h11
  rfl
 ·rintro rfl
  simp [eqC, eqS]
theorem allEq_iff {α : Type} {p : α → α → Bool} (hp : ∀ a b, p a b = true ↔ a = b) : ∀ {l m : List α}, allEq p l m = true ↔ l = m
  | [], [] => by simp [allEq]
  | [], b :: m => by simp [allEq]
  | a :: l, [] => by simp [allEq]
  | a :: l, b :: m => by
    rw [allEq, Bool.and_eq_true, hp, allEq_iff hp, List.cons.injEq]
theorem key_iff {a o : OpS} {h f : List Int} (hw : a.win = o.win) (hi : alike a o → h = f → a.ins = o.ins) : keyB a h = keyB o f ↔ (sameOp a o && allEq eqI h f) = true := by
 constructor
 ·intro e
  obtain ⟨e1, e2⟩ := key_inj e
  have hii := hi e1 e2
  simp only [sameOp, Bool.and_eq_true, beq_iff_eq, eqS_iff, allEq_iff (p := eqC) (fun _ _ => eqC_iff), allEq_iff (p := eqI) (fun _ _ => beq_iff_eq)]
  exact ⟨⟨e1.kind, e1.var, e1.type, e1.tests, e1.conds, hw, hii⟩, e2⟩
 ·intro e
  simp only [sameOp, Bool.and_eq_true, beq_iff_eq, eqS_iff, allEq_iff (p := eqC) (fun _ _ => eqC_iff), allEq_iff (p := eqI) (fun _ _ => beq_iff_eq)] at e
  obtain ⟨⟨e1, e2, e3, e4, e5, _, _⟩, e6⟩ := e
  rw [keyB, keyB, keyOp, keyOp, e1, e2, e3, e4, e5, e6]
structure goodPl (w : Int) (x : Pln) : Prop where
  len : x.from_.length = x.ops.length
  at_ : ∀ (i : Nat) (a : OpS) (h : List Int), x.ops[i]? = some a → x.from_[i]? = some h → a.win = w ∧ a.ins = (h.length : Nat)
theorem good_nil (w : Int) : goodPl w ⟨[], []⟩ := ⟨rfl, fun i a h h1 => by simp at h1⟩
theorem tells_of {w : Int} {x : Pln} (hg : goodPl w x) {o : OpS} {f : List Int} (hw : o.win = w) (hi : o.ins = (f.length : Nat)) : tells x o f := fun i a h h1 h2 => by
 obtain ⟨e1, e2⟩ := hg.at_ i a h h1 h2
 exact key_iff (by rw [e1, hw]) (fun _ e => by rw [e2, hi, e])
theorem good_put {w : Int} {x : Pln} (hg : goodPl w x) {o : OpS} {f : List Int} (hw : o.win = w) (hi : o.ins = (f.length : Nat)) : goodPl w (putPl x o f).1 := by
  rw [putPl]
  cases (List.range x.ops.length).find? (hitP x o f) with
  | some i => exact hg
  | none =>
    refine ⟨by simp [hg.len], fun i a h h1 h2 => ?_⟩
    simp only at h1 h2
    by_cases hil : i < x.ops.length
    · rw [List.getElem?_append_left hil] at h1
      rw [List.getElem?_append_left (by rw [hg.len]; exact hil)] at h2
      exact hg.at_ i a h h1 h2
    · rw [List.getElem?_append_right (by omega)] at h1
      rw [List.getElem?_append_right (by rw [hg.len]; omega), hg.len] at h2
      generalize i - x.ops.length = j at h1 h2
      cases j with
      | zero =>
        simp at h1 h2
        subst h1; subst h2
        exact ⟨hw, hi⟩
      | succ j => simp at h1
def opOf (n : Nd) (given : List Cnd) (w : Int) : OpS := ⟨kindOf n.kind, n.var, n.type, n.tests, given.filter (fun c => n.kids.all fun k => !readyC k.vars c), w, max 1 (n.kids.length : Nat)⟩
abbrev Mk := Pln → List Cnd → Pln × Nat
def kidsR (given : List Cnd) : List (Mk × Nd) → Pln × List Int → Pln × List Int
  | [], r => r
  | (mk, k) :: l, r => kidsR given l ((mk r.1 (given.filter (readyC k.vars))).1, r.2 ++ [((mk r.1 (given.filter (readyC k.vars))).2 : Int)])
def Nd.mkR (put : Pln → OpS → List Int → Pln × Nat) (w : Int) (n : Nd) : Mk := n.para fun n l => fun x given =>
  let r := kidsR given (l.zip n.kids) (x, [])
  put r.1 (opOf n given w) (if n.kids.length = 0 then [-1] else r.2)
theorem Nd.mkR_eq (put : Pln → OpS → List Int → Pln × Nat) (w : Int) (n : Nd) (x : Pln) (given : List Cnd) : n.mkR put w x given =
  put (kidsR given ((n.kids.map (Nd.mkR put w)).zip n.kids) (x, [])).1 (opOf n given w) (if n.kids.length = 0 then [-1] else (kidsR given ((n.kids.map (Nd.mkR put w)).zip n.kids) (x, [])).2) :=
 congrFun (congrFun (Nd.para_eq (α := Mk) _ n) x) given
theorem kidsR_same {w : Int} (given : List Cnd) : ∀ (l : List Nd), (∀ k ∈ l, ∀ (x : Pln) (g : List Cnd), goodPl w x → k.mkR putM w x g = k.mkR putPl w x g ∧ goodPl w (k.mkR putPl w x g).1) → ∀ r : Pln × List Int, goodPl w r.1 →
    kidsR given ((l.map (Nd.mkR putM w)).zip l) r = kidsR given ((l.map (Nd.mkR putPl w)).zip l) r ∧ goodPl w (kidsR given ((l.map (Nd.mkR putPl w)).zip l) r).1 ∧ (kidsR given ((l.map (Nd.mkR putPl w)).zip l) r).2.length = r.2.length + l.length
  | [], _, r, hr => ⟨rfl, hr, rfl⟩
  | k :: l, ih, r, hr => by
    obtain ⟨h1, h2⟩ := ih k List.mem_cons_self r.1 (given.filter (readyC k.vars)) hr
    obtain ⟨h3, h4, h5⟩ := kidsR_same given l (fun q hq => ih q (List.mem_cons_of_mem _ hq)) ((k.mkR putPl w r.1 (given.filter (readyC k.vars))).1, r.2 ++ [((k.mkR putPl w r.1 (given.filter (readyC k.vars))).2 : Int)]) h2
    simp only [List.map_cons, List.zip_cons_cons, kidsR]
    rw [h1]
    refine ⟨h3, h4, ?_⟩
    rw [h5]; simp; omega
theorem mkR_same {w : Int} : ∀ n : Nd, ∀ (x : Pln) (g : List Cnd), goodPl w x → n.mkR putM w x g = n.mkR putPl w x g ∧ goodPl w (n.mkR putPl w x g).1 := Nd.ind fun n ih x g hx => by
 obtain ⟨h1, h2, h3⟩ := kidsR_same (w := w) g n.kids ih (x, []) hx
 rw [Nd.mkR_eq, Nd.mkR_eq, h1]
 generalize kidsR g ((n.kids.map (Nd.mkR putPl w)).zip n.kids) (x, []) = r at h2 h3
 have hi : (opOf n g w).ins = ((if n.kids.length = 0 then [-1] else r.2).length : Nat) := by
  simp only [opOf]
  split
  ·rename_i h0
   rw [h0]; rfl
  ·rename_i h0
   simp only [List.length_nil, Nat.zero_add] at h3
   rw [h3]
   omega
 exact ⟨put_same h2.len (tells_of h2 rfl hi), good_put h2 rfl hi⟩
def planR (put : Pln → OpS → List Int → Pln × Nat) (p : Pat) : Pln :=
  (put (p.node.mkR put p.within ⟨[], []⟩ p.conds).1 ⟨5, ⟨#[]⟩, ⟨#[]⟩, [], [], p.within, 1⟩ [((p.node.mkR put p.within ⟨[], []⟩ p.conds).2 : Int)]).1
theorem planR_same (p : Pat) : planR putM p = planR putPl p := by
 obtain ⟨h1, h2⟩ := mkR_same (w := p.within) p.node ⟨[], []⟩ p.conds (good_nil _)
 rw [planR, planR, h1]
 rw [put_same h2.len (tells_of h2 rfl rfl)]
theorem Nd.tests_few {n : Nd} (h : n.err = 0) : n.tests.length ≤ 16 := by
 have h0 := Nd.err_own h
 unfold ndOwn at h0
 split at h0
 ·split at h0
  ·cases h0
  ·unfold cndsErr at h0
   split at h0
   ·cases h0
   ·rename_i hb
    simp only [Bool.or_eq_true, not_or, decide_eq_true_eq] at hb
    omega
 ·split at h0
  ·split at h0
   ·cases h0
   ·rename_i hb
    simp only [joinBad, Bool.or_eq_true, not_or, decide_eq_true_eq] at hb
    omega
  ·cases h0
theorem Nd.fewT_of : ∀ n : Nd, n.err = 0 → n.fewT := Nd.ind fun n ih h => by
 rw [Nd.fewT_eq]
 refine ⟨by have := Nd.tests_few h; omega, fun p hp => ?_⟩
 obtain ⟨x, hx, rfl⟩ := List.mem_map.1 hp
 exact ih x hx (Nd.err_kid h hx)
def cI (c : Cnd) : Prop := inI64 c.l.v.n ∧ inI64 c.r.v.n
theorem key_opd {vars : List ByteArray} {o : Opd} (hv : ∀ v ∈ vars, v.size ≤ 32) (h : opdOk vars o = true) (hi : inI64 o.v.n) : keyO o := by
 unfold opdOk at h
 split at h
 ·rename_i ha
  simp only [Bool.and_eq_true, decide_eq_true_eq, valOk] at h
  obtain ⟨h1, h2⟩ := h
  refine ⟨by omega, by omega, ?_, ?_, hi⟩
  ·rcases h2 with h2 | h2 <;> omega
  ·unfold inI64
   rcases h2 with h2 | h2 <;> omega
 ·simp only [Bool.and_eq_true, decide_eq_true_eq, valNone, isName] at h
  obtain ⟨⟨h1, h2⟩, h3⟩ := h
  refine ⟨?_, by omega, by omega, by unfold inI64; omega, hi⟩
  unfold opdVar at h3
  split at h3
  ·simp only [decide_eq_true_eq] at h3; omega
  ·have := hv _ (hasS_iff.1 h3); omega
theorem key_cnd {vars : List ByteArray} {c : Cnd} (hv : ∀ v ∈ vars, v.size ≤ 32) (h : cndBad vars c = false) (hi : cI c) : keyC c := by
 unfold cndBad at h
 simp only [Bool.or_eq_false_iff, decide_eq_false_iff_not, Bool.not_eq_false'] at h
 obtain ⟨⟨⟨h1, h2⟩, h3⟩, h4⟩ := h
 exact ⟨key_opd hv h2 hi.1, key_opd hv h3 hi.2, by unfold inI64; omega⟩
theorem key_cnds {vars : List ByteArray} {l : List Cnd} (hv : ∀ v ∈ vars, v.size ≤ 32) (h : cndsErr vars l = 0) (hi : ∀ c ∈ l, cI c) : l.length ≤ 16 ∧ ∀ c ∈ l, keyC c := by
 unfold cndsErr at h
 split at h
 ·cases h
 ·rename_i hb
  simp only [Bool.or_eq_true, not_or, decide_eq_true_eq, cndsBad, Bool.not_eq_true, List.any_eq_false] at hb
  exact ⟨by omega, fun c hc => key_cnd hv (by simpa using hb.2 c hc) (hi c hc)⟩
def Nd.inr (n : Nd) : Prop := n.para fun n l => (∀ c ∈ n.tests, cI c) ∧ ∀ p ∈ l, p
theorem Nd.inr_eq (n : Nd) : n.inr = ((∀ c ∈ n.tests, cI c) ∧ ∀ p ∈ n.kids.map Nd.inr, p) := Nd.para_eq _ n
theorem Nd.inr.own {n : Nd} (h : n.inr) : ∀ c ∈ n.tests, cI c := by rw [Nd.inr_eq] at h; exact h.1
theorem Nd.inr.kid {n x : Nd} (h : n.inr) (hx : x ∈ n.kids) : x.inr := by rw [Nd.inr_eq] at h; exact h.2 _ (List.mem_map_of_mem hx)
theorem Nd.own_key {n : Nd} (h : n.err = 0) (hi : n.inr) : n.var.size ≤ 32 ∧ n.type.size ≤ 32 ∧ n.tests.length ≤ 16 ∧ (∀ c ∈ n.tests, keyC c) ∧ (n.kind = 1 ∧ n.kids = [] ∨ (n.kind = 2 ∨ n.kind = 3 ∨ n.kind = 4) ∧ 2 ≤ n.kids.length) := by
 have h0 := Nd.err_own h
 unfold ndOwn at h0
 split at h0
 ·rename_i hk
  split at h0
  ·cases h0
  ·rename_i hb
   simp only [leafBad, Bool.or_eq_true, not_or, Bool.not_eq_true', Bool.not_eq_false, isName, Bool.and_eq_true, decide_eq_true_eq] at hb
   obtain ⟨h1, h2⟩ := key_cnds (fun v hv => by cases hv) h0 hi.own
   exact ⟨by omega, by omega, h1, h2, .inl ⟨hk, List.eq_nil_of_length_eq_zero (by omega)⟩⟩
 ·split at h0
  ·rename_i hk
   split at h0
   ·cases h0
   ·rename_i hb
    simp only [joinBad, Bool.or_eq_true, not_or, decide_eq_true_eq, Decidable.not_not] at hb
    have ht : n.tests = [] := List.eq_nil_of_length_eq_zero (by omega)
    exact ⟨by omega, by omega, by omega, (fun c hc => by rw [ht] at hc; cases hc), .inr ⟨hk, by omega⟩⟩
  ·cases h0
theorem sum_two {l : List Nd} (h : ∀ x ∈ l, x.size + 1 ≤ 2 * x.terms) : (l.map Nd.size).sum + l.length ≤ 2 * (l.map Nd.terms).sum := by
  induction l with
  | nil => simp
  | cons x l ih =>
    have h1 := h x List.mem_cons_self
    have h2 := ih fun y hy => h y (List.mem_cons_of_mem _ hy)
    simp only [List.map_cons, List.sum_cons, List.length_cons]; omega
theorem Nd.size_terms : ∀ n : Nd, n.err = 0 → n.size + 1 ≤ 2 * n.terms := Nd.ind fun n ih h => by
 have hs := sum_two fun x hx => ih x hx (Nd.err_kid h hx)
 have h0 := Nd.err_own h
 rw [Nd.size_eq, Nd.terms_eq]
 split
 ·rename_i hk
  rw [List.eq_nil_of_length_eq_zero hk]; simp
 ·rename_i hk
  unfold ndOwn at h0
  split at h0
  ·split at h0
   ·cases h0
   ·rename_i hb
    simp only [leafBad, Bool.or_eq_true, not_or, decide_eq_true_eq] at hb
    omega
  ·split at h0
   ·split at h0
    ·cases h0
    ·rename_i hb
     simp only [joinBad, Bool.or_eq_true, not_or, decide_eq_true_eq, Decidable.not_not] at hb
     omega
   ·cases h0
structure goodPat (p : Pat) : Prop where
  err : p.node.err = 0
  size : p.node.size ≤ 23
  deep : p.node.deep ≤ 8
  len : p.conds.length ≤ 16
  conds : ∀ c ∈ p.conds, keyC c
  inr : p.node.inr
theorem good_of {p : Pat} (h : patErr p = 0) (hi : p.node.inr) (hc : ∀ c ∈ p.conds, cI c) : goodPat p := by
 unfold patErr at h
 split at h
 ·cases h
 split at h
 case isFalse hs => exact absurd h hs
 rename_i hs
 split at h
 case isFalse hb => exact absurd h hb
 unfold Nd.shape at hs
 split at hs
 ·cases hs
 rename_i hd
 split at hs
 case isFalse he => exact absurd hs he
 rename_i he
 simp only [Bool.or_eq_true, not_or, decide_eq_true_eq] at hd
 have h1 := Nd.size_terms p.node he
 obtain ⟨h2, h3⟩ := key_cnds (Nd.vars_sz p.node he) h hc
 exact ⟨he, by omega, by omega, h2, h3, hi⟩
theorem putM_len (x : Pln) (o : OpS) (f : List Int) (hx : x.from_.length = x.ops.length) : (putM x o f).1.from_.length = (putM x o f).1.ops.length ∧ (putM x o f).1.ops.length ≤ x.ops.length + 1 ∧ x.ops.length ≤ (putM x o f).1.ops.length ∧ (putM x o f).2 < (putM x o f).1.ops.length := by
  rw [putM]
  cases h : (List.range x.ops.length).find? (fun i => decide ((keysOf x)[i]? = some (keyB o f))) with
  | some i =>
    have := List.mem_of_find?_eq_some h
    exact ⟨hx, by simp, by simp, List.mem_range.1 this⟩
  | none => simp [hx]
def PutLen (put : Pln → OpS → List Int → Pln × Nat) : Prop := ∀ (x : Pln) (o : OpS) (f : List Int), x.from_.length = x.ops.length → (put x o f).1.from_.length = (put x o f).1.ops.length ∧ (put x o f).1.ops.length ≤ x.ops.length + 1 ∧ x.ops.length ≤ (put x o f).1.ops.length ∧ (put x o f).2 < (put x o f).1.ops.length
theorem kidsR_len {put : Pln → OpS → List Int → Pln × Nat} {w : Int} (given : List Cnd) : ∀ (l : List Nd), (∀ k ∈ l, ∀ (x : Pln) (g : List Cnd), x.from_.length = x.ops.length → (k.mkR put w x g).1.from_.length = (k.mkR put w x g).1.ops.length ∧ (k.mkR put w x g).1.ops.length ≤ x.ops.length + k.size ∧ x.ops.length ≤ (k.mkR put w x g).1.ops.length ∧ (k.mkR put w x g).2 < (k.mkR put w x g).1.ops.length) →
    ∀ r : Pln × List Int, r.1.from_.length = r.1.ops.length → (kidsR given ((l.map (Nd.mkR put w)).zip l) r).1.from_.length = (kidsR given ((l.map (Nd.mkR put w)).zip l) r).1.ops.length ∧ (kidsR given ((l.map (Nd.mkR put w)).zip l) r).1.ops.length ≤ r.1.ops.length + (l.map Nd.size).sum ∧ r.1.ops.length ≤ (kidsR given ((l.map (Nd.mkR put w)).zip l) r).1.ops.length
  | [], _, r, hr => ⟨hr, by simp [kidsR], by simp [kidsR]⟩
  | k :: l, ih, r, hr => by
    obtain ⟨h1, h2, h0, _⟩ := ih k List.mem_cons_self r.1 (given.filter (readyC k.vars)) hr
    obtain ⟨h3, h4, h5⟩ := kidsR_len given l (fun q hq => ih q (List.mem_cons_of_mem _ hq)) ((k.mkR put w r.1 (given.filter (readyC k.vars))).1, r.2 ++ [((k.mkR put w r.1 (given.filter (readyC k.vars))).2 : Int)]) h1
    simp only [List.map_cons, List.zip_cons_cons, kidsR, List.sum_cons] at h3 h4 h5 ⊢
    exact ⟨h3, by omega, by omega⟩
theorem mkR_len {put : Pln → OpS → List Int → Pln × Nat} (hp : PutLen put) {w : Int} : ∀ n : Nd, ∀ (x : Pln) (g : List Cnd), x.from_.length = x.ops.length → (n.mkR put w x g).1.from_.length = (n.mkR put w x g).1.ops.length ∧ (n.mkR put w x g).1.ops.length ≤ x.ops.length + n.size ∧ x.ops.length ≤ (n.mkR put w x g).1.ops.length ∧ (n.mkR put w x g).2 < (n.mkR put w x g).1.ops.length := Nd.ind fun n ih x g hx => by
 obtain ⟨h1, h2, h3⟩ := kidsR_len (put := put) (w := w) g n.kids ih (x, []) hx
 rw [Nd.mkR_eq, Nd.size_eq]
 generalize kidsR g ((n.kids.map (Nd.mkR put w)).zip n.kids) (x, []) = r at h1 h2 h3
 obtain ⟨h4, h5, h6, h7⟩ := hp r.1 (opOf n g w) (if n.kids.length = 0 then [-1] else r.2) h1
 exact ⟨h4, by simp only at h2; omega, by simp only at h3; omega, h7⟩
end Go.Abs.M
namespace Go.Abs
open Go
section
variable {P : Program} {σ σ0 σ1 τ : Hp}
variable [Mode]
def Hp.join (σ τ : Hp) : Hp := ⟨fun g => match σ.obj g with | some x => some x | none => τ.obj g, fun k => match σ.gr k with | some x => some x | none => τ.gr k⟩
structure Hp.Apart (σ τ : Hp) : Prop where
  obj : ∀ g, σ.obj g = none ∨ τ.obj g = none
  gr : ∀ k, σ.gr k = none ∨ τ.gr k = none
omit [Mode] in
theorem Hp.Le.joinL (σ τ : Hp) : Hp.Le σ (σ.join τ) := ⟨fun g c h => by simp [Hp.join, h], fun k x h => by simp [Hp.join, h]⟩
omit [Mode] in
theorem Hp.Apart.objR (h : Hp.Apart σ τ) {g : Nat} {c : List V} (hg : τ.obj g = some c) : (σ.join τ).obj g = some c := by
 rcases h.obj g with h1 | h1
 ·simp [Hp.join, h1, hg]
 ·rw [hg] at h1; cases h1
omit [Mode] in
theorem Hp.Apart.grR (h : Hp.Apart σ τ) {k : Nat} {x : (TypeId × Nat) × List (List V)} (hk : τ.gr k = some x) : (σ.join τ).gr k = some x := by
 rcases h.gr k with h1 | h1
 ·simp [Hp.join, h1, hk]
 ·rw [hk] at h1; cases h1
omit [Mode] in
theorem over_join (h : Hp.Apart σ0 τ) : σ1.over (σ0.join τ) σ0 = σ1.join τ := by
  simp only [Hp.over, Hp.join, Hp.mk.injEq]
  constructor
  · funext g
    cases h1 : σ1.obj g with
    | some x => rfl
    | none =>
      rcases h.obj g with h2 | h2
      · simp [h2]
      · cases h3 : σ0.obj g <;> simp [h2]
  · funext k
    cases h1 : σ1.gr k with
    | some x => rfl
    | none =>
      rcases h.gr k with h2 | h2
      · simp [h2]
      · cases h3 : σ0.gr k <;> simp [h2]
omit [Mode] in
theorem Hp.Apart.fresh (h : Hp.Apart σ0 τ) (hf : Hp.Fresh σ1 σ0 (σ0.join τ)) : Hp.Apart σ1 τ where
  obj g := by
    cases h1 : σ1.obj g with
    | none => exact .inl rfl
    | some c =>
      rcases h.obj g with h2 | h2
      · have := hf.obj g c h1 h2
        simp only [Hp.join, h2] at this
        exact .inr this
      · exact .inr h2
  gr k := by
    cases h1 : σ1.gr k with
    | none => exact .inl rfl
    | some c =>
      rcases h.gr k with h2 | h2
      · have := hf.gr k c h1 h2
        simp only [Hp.join, h2] at this
        exact .inr this
      · exact .inr h2
theorem ACalls.beside {f : FuncId} {args : List V} {R : V → Hp → Prop} (h : ACalls P f args σ0 R) (ha : Hp.Apart σ0 τ) : ACalls P f args (σ0.join τ) (fun v σ' => ∃ σ1, R v σ1 ∧ Hp.Apart σ1 τ ∧ σ' = σ1.join τ) :=
 (h.frame (.joinL σ0 τ)).mono fun _ _ ⟨σ1, h1, h2, h3⟩ => ⟨σ1, h1, ha.fresh h2, h3.trans (over_join ha)⟩
end
end Go.Abs
namespace Go.Abs
open Go
section
variable {P : Program} {σ : Hp} {s : St} {n : Nat} {Q : Exit → St → Hp → Prop}
variable [Mode]
theorem VR.wkSl {w : World} {cx : Cx} {es : List (List V)} {x : Value} (h : VR w cx (.sl es) x) : VR w cx (.sl (es.map (List.map wk1))) x := by
  generalize hv : V.sl es = v at h
  cases h with
  | c x => cases hv
  | nils => injection hv with hv; subst hv; exact .nils
  | nile a => injection hv with hv; subst hv; exact .nile a
  | sl f hI hcap hlen hc hr h1 =>
    injection hv with hv
    subst hv
    have := VR.sl (w := w) (cx := cx) (es := es.map (List.map wk1)) f hI (by simpa using hcap) (fun i e he => by
      rw [List.getElem?_map, Option.map_eq_some_iff] at he
      obtain ⟨e', h', rfl⟩ := he
      rw [List.length_map]; exact hlen i e' h') (fun i j hi hj => hc i j (by simpa using hi) hj) (fun i e j v he hv => by
      rw [List.getElem?_map, Option.map_eq_some_iff] at he
      obtain ⟨e', h', rfl⟩ := he
      rw [List.getElem?_map, Option.map_eq_some_iff] at hv
      obtain ⟨v', hv', rfl⟩ := hv
      exact wk1_VR (hr i e' j v' h' hv')) (fun i j hi hj => h1 i j (by simpa using hi) hj)
    rwa [List.length_map] at this
  | _ => cases hv
def wkD : V → V
  | .sl es => .sl (es.map (List.map wk1))
  | v => wk1 v
theorem wkD_VR {w : World} {cx : Cx} {v : V} {x : Value} (h : VR w cx v x) : VR w cx (wkD v) x := by
 unfold wkD
 split
 ·exact h.wkSl
 ·exact wk1_VR h
def wkA : V → V
  | .agg vs => .agg (vs.map wkD)
  | v => wkD v
theorem wkA_VR {w : World} {cx : Cx} {v : V} {x : Value} (h : VR w cx v x) : VR w cx (wkA v) x := by
  unfold wkA
  split
  · cases h with
    | agg h1 hn hh =>
      refine .agg h1 (by simpa using hn) (fun i v x hv hx => ?_)
      rw [List.getElem?_map, Option.map_eq_some_iff] at hv
      obtain ⟨u, hu, rfl⟩ := hv
      exact wkD_VR (hh i u x hu hx)
  · exact wkD_VR h
theorem ACalls.wkA {f : FuncId} {args : List V} {R : V → Hp → Prop} (h : ACalls P f (args.map Go.Abs.wkA) σ R) : ACalls P f args σ R :=
 ⟨h.1, fun cx w xs hH ha => h.2 cx w xs hH ⟨by simpa using ha.1, fun i v x hv hx => by
  rw [List.getElem?_map, Option.map_eq_some_iff] at hv
  obtain ⟨u, hu, rfl⟩ := hv
  exact wkA_VR (ha.2 i u x hu hx)⟩⟩
end
end Go.Abs
namespace Go.Abs
open Go
section
variable {P : Program} {B : Base} {n : Nat} {cx cx' : Cx} {s : St} {σ σ' π ρ : Hp} {a : Act} {w : World} {Q : Exit → St → Hp → Prop}
variable [Mode]
def St.mapV (s : St) (f : V → V) : St := ⟨fun t => f (s.t t), fun d => (s.l d).map (List.map f)⟩
omit [Mode] in
@[simp] theorem St.mapV_t (s : St) (f : V → V) (t : Nat) : (s.mapV f).t t = f (s.t t) := rfl
omit [Mode] in
@[simp] theorem St.mapV_l (s : St) (f : V → V) (d : Nat) : (s.mapV f).l d = (s.l d).map (List.map f) := rfl
theorem SR.remap {f : V → V} (h : SR B n cx s σ a w) (h1 : SR B n cx' s σ' a w) (hL : cx'.L = cx.L) (hlp : ∀ d o, f (.lp d o) = .lp d o) (hj : f .junk = .junk) (hf : ∀ v x, VR w cx v x → VR w cx' (f v) x) : SR B n cx' (s.mapV f) σ' a w := by
 have hfe : foot cx' σ' (s.mapV f).l = foot cx' σ' s.l := by
  funext g
  refine propext (or_congr Iff.rfl ⟨fun ⟨d, c, hd, e⟩ => ?_, fun ⟨d, c, hd, e⟩ => ⟨d, c.map f, by simp [hd], e⟩⟩)
  simp only [St.mapV_l, Option.map_eq_some_iff] at hd
  obtain ⟨c, hc, rfl⟩ := hd
  exact ⟨d, c, hc, e⟩
 refine ⟨h1.size, by rw [hfe]; exact h1.defers, h1.nd, fun t => ?_, h1.heap, ⟨fun d cells hd => ?_, fun d cells hd => ?_, fun d e c c' hd he => ?_⟩, by rw [hfe]; exact h1.ext, h1.gnew, h1.onew, h1.stab, h1.stN, fun d c hd => ?_⟩
 ·have ht := h.tmp t
  show TR w cx' (f (s.t t)) _
  generalize s.t t = v at ht
  generalize a.tmps.getD t undef = x at ht
  cases ht with
  | v hv' => exact .v (hf _ _ hv')
  | lp d off => rw [hlp, ← hL]; exact .lp d off
  | junk => rw [hj]; exact .junk _
 ·simp only [St.mapV_l, Option.map_eq_some_iff] at hd
  obtain ⟨c, hc, rfl⟩ := hd
  obtain ⟨T', cs, h2, h3⟩ := h.box.box d c hc
  rw [hL]
  refine ⟨T', cs, h2, by simpa using h3.1, h3.2.1, fun i v x hv hx => ?_⟩
  obtain ⟨u, hu, rfl⟩ := map_get hv
  exact hf _ _ (h3.2.2 i u x hu hx)
 ·simp only [St.mapV_l, Option.map_eq_some_iff] at hd
  obtain ⟨c, hc, rfl⟩ := hd
  exact h1.box.apart d c hc
 ·simp only [St.mapV_l, Option.map_eq_some_iff] at hd he
  obtain ⟨c, hc, rfl⟩ := hd
  obtain ⟨c', hc', rfl⟩ := he
  exact h1.box.inj d e c c' hc hc'
 ·simp only [St.mapV_l, Option.map_eq_some_iff] at hd
  obtain ⟨c, hc, rfl⟩ := hd
  exact h1.stS d c hc
omit [Mode] in
theorem thaw_lp (m d o : Nat) : thaw π m (.lp d o) = .lp d o := by cases m <;> rfl
omit [Mode] in
theorem thaw_junk (m : Nat) : thaw π m .junk = .junk := by cases m <;> rfl
theorem SR.lend (h : SR B n cx s σ a w) (hπ : Hp.Le π σ) (hρ : Hp.Le ρ σ) (ha : Hp.Apart ρ π) (m : Nat) : SR B n (cx.lent π) (s.mapV (thaw π m)) ρ a w := by
 have hP : HR cx π w := h.heap.sub hπ.obj hπ.gr
 have hno : ∀ g, ρ.own cx g → ¬ π.own cx g := fun g h1 h2 => by
  rcases h1 with ⟨c, hc⟩ | ⟨k, x, hk, hb⟩
  ·rcases h2 with ⟨c', hc'⟩ | ⟨k', x', hk', hb'⟩
   ·rcases ha.obj g with e | e
    ·rw [e] at hc; cases hc
    ·rw [e] at hc'; cases hc'
   ·exact h.heap.mix k' x' g c (hπ.gr k' x' hk') (hρ.obj g c hc) hb'
  ·rcases h2 with ⟨c', hc'⟩ | ⟨k', x', hk', hb'⟩
   ·exact h.heap.mix k x g c' (hρ.gr k x hk) (hπ.obj g c' hc') hb
   ·have := h.heap.two k k' x x' g (hρ.gr k x hk) (hπ.gr k' x' hk') hb hb'
    subst this
    rcases ha.gr k with e | e
    ·rw [e] at hk; cases hk
    ·rw [e] at hk'; cases hk'
 have hR0 : HR cx ρ w := h.heap.sub hρ.obj hρ.gr
 have hR : HR (cx.lent π) ρ w := hR0.keep Cx.le_lent (fun _ => False) (fun _ h => h.elim) (fun _ h => h.elim) (fun g hg ho => hg.elim (h.heap.apart g (hρ.own ho)) (hno g ho)) (fun g hg => hg.elim (h.heap.ilt g) hP.own_lt) (fun _ _ _ => rfl)
 have h1 : SR B n (cx.lent π) s ρ a w := h.heapstep Cx.le_lent rfl (fun g hg => hg.imp id (fun e => .inl (hπ.own e))) (fun g hg => .inl (hρ.own hg)) rfl rfl ⟨rfl, fun _ => Nat.le_refl _⟩ (Nat.le_refl _) (fun _ _ _ => rfl) hR
  (fun k x hk => .inl ⟨x, hρ.gr k x hk⟩) (fun g x hx => .inl ⟨x, hρ.obj g x hx⟩)
 exact h.remap h1 rfl (thaw_lp m) (thaw_junk m) fun v x hv => thaw_VR hP m v x hv
theorem AW.lend {c : Code} (hπ : Hp.Le π σ) (hρ : Hp.Le ρ σ) (ha : Hp.Apart ρ π) (m : Nat) (h : AW P n c Q (s.mapV (thaw π m)) ρ) : AW P n c Q s σ :=
 fun B cx a w h1 h2 h3 => h B (cx.lent π) a w h1 h2 (h3.lend hπ hρ ha m)
theorem AW.st {c : Code} (J : St → Prop) (hJ : J s) (h : ∀ s, J s → AW P n c Q s σ) : AW P n c Q s σ := h s hJ
theorem wkD_lp (d o : Nat) : wkD (.lp d o) = .lp d o := rfl
theorem AW.wkD {c : Code} (h : AW P n c Q (s.mapV Go.Abs.wkD) σ) : AW P n c Q s σ :=
 fun B cx a w h1 h2 h3 => h B cx a w h1 h2 (h3.remap h3 rfl wkD_lp rfl fun _ _ hv => wkD_VR hv)
end
end Go.Abs
