import Derived.Test.YtmhamgllanihoaaNb
import Derived.Test.YtmhamgllanihoaaNa
namespace Go.Abs.M
open Go Go.Abs Go.Proofs
set_option linter.unusedSimpArgs false
/-! Bits, in plain Lean. -/
def blen (u : Nat) : Nat := if u = 0 then 0 else u.log2 + 1
theorem blen_lt {u n : Nat} : blen u ≤ n ↔ u < 2 ^ n := by
  unfold blen
  split
  · subst_vars; simp [Nat.two_pow_pos]
  · rename_i h
    rw [← Nat.log2_lt h]; omega
theorem blen_spec {u n : Nat} (h1 : 2 ^ n ≤ u) (h2 : u < 2 ^ (n + 1)) : blen u = n + 1 := by
  have a := (blen_lt (u := u) (n := n + 1)).2 h2
  have b : ¬ blen u ≤ n := fun h => absurd (blen_lt.1 h) (by omega)
  omega
theorem blen_bnd (u : Nat) (h : u ≠ 0) : 2 ^ (blen u - 1) ≤ u ∧ u < 2 ^ blen u := by
  refine ⟨?_, blen_lt.1 (Nat.le_refl _)⟩
  have : ¬ blen u ≤ blen u - 1 := by unfold blen; rw [if_neg h]; omega
  have := mt blen_lt.2 this
  omega
theorem blen_div (u k : Nat) (h : 2 ^ k ≤ u) : blen u = k + blen (u / 2 ^ k) := by
  have hz : u / 2 ^ k ≠ 0 := by have := Nat.div_pos h (Nat.two_pow_pos k); omega
  have h0 : u ≠ 0 := by have := Nat.two_pow_pos k; omega
  obtain ⟨h1, h2⟩ := blen_bnd _ hz
  have hb : 0 < blen (u / 2 ^ k) := by unfold blen; rw [if_neg hz]; omega
  have h3 : 2 ^ (k + (blen (u / 2 ^ k) - 1)) ≤ u := by
    rw [Nat.pow_add]
    calc 2 ^ k * 2 ^ (blen (u / 2 ^ k) - 1) ≤ 2 ^ k * (u / 2 ^ k) := Nat.mul_le_mul_left _ h1
      _ ≤ u := Nat.mul_div_le _ _
  have h4 : u < 2 ^ (k + (blen (u / 2 ^ k) - 1) + 1) := by
    rw [show k + (blen (u / 2 ^ k) - 1) + 1 = k + blen (u / 2 ^ k) by omega, Nat.pow_add]
    have h5 := (Nat.div_lt_iff_lt_mul (Nat.two_pow_pos k)).1 h2
    rw [Nat.mul_comm] at h5
    exact h5
  rw [blen_spec h3 h4]; omega
theorem blen_le64 {u : Nat} (h : u < 18446744073709551616) : blen u ≤ 64 := blen_lt.2 h
def sizeB (u : Nat) : Nat := if u = 18446744073709551615 then 129 else 2 * blen (u + 1) - 1
/-- A number in n bits. -/
def lowB (u : Nat) : Nat → List Bool
  | 0 => []
  | n + 1 => (u / 2 ^ n % 2 == 1) :: lowB u n
theorem lowB_len (u : Nat) : ∀ n, (lowB u n).length = n
  | 0 => rfl
  | n + 1 => by rw [lowB, List.length_cons, lowB_len u n]
theorem lowB_get (u : Nat) : ∀ (n i : Nat), i < n → (lowB u n)[i]? = some (u / 2 ^ (n - 1 - i) % 2 == 1)
  | n + 1, 0, _ => by simp [lowB]
  | n + 1, i + 1, h => by
    rw [lowB, List.getElem?_cons_succ, lowB_get u n i (by omega)]
    rw [show n + 1 - 1 - (i + 1) = n - 1 - i by omega]
theorem lowB_take (u n i : Nat) (h : i < n) : (lowB u n).take (i + 1) = (lowB u n).take i ++ [u / 2 ^ (n - 1 - i) % 2 == 1] := by
  have h2 : i < (lowB u n).length := by rw [lowB_len]; exact h
  have := lowB_get u n i h
  rw [List.take_add_one, this]; rfl
def natB (u : Nat) : List Bool := if u = 18446744073709551615 then List.replicate 64 false ++ true :: List.replicate 64 false else List.replicate (blen (u + 1) - 1) false ++ lowB (u + 1) (blen (u + 1))
theorem blen_pos (u : Nat) : 0 < blen (u + 1) := by unfold blen; simp
theorem natB_len (u : Nat) : (natB u).length = sizeB u := by
  unfold natB sizeB
  split
  · simp
  · rw [List.length_append, List.length_replicate, lowB_len]; have := blen_pos u; omega
theorem sizeB_le {u : Nat} (h : u < 18446744073709551616) : sizeB u ≤ 129 := by
  unfold sizeB
  split
  · omega
  · have := blen_le64 (u := u + 1) (by omega); omega
def zigB (n : Int) : Nat := if 0 ≤ n then 2 * n.toNat else 2 * (-(n + 1)).toNat + 1
def numB (n : Int) : List Bool := natB (zigB n)
def textB (s : ByteArray) : List Bool := natB s.size ++ s.data.toList.flatMap fun b => lowB b.toNat 8
/-! Bits as bytes. -/
/-- The i-th bit is put to bytes that have place for it. -/
def putB (l : List Nat) (i : Nat) (b : Bool) : List Nat := if b then l.modify (i / 8) (· + 128 / 2 ^ (i % 8)) else l
def putsB : List Nat → Nat → List Bool → List Nat
  | l, _, [] => l
  | l, i, b :: bs => putsB (putB l i b) (i + 1) bs
def zerosB (n : Nat) : List Nat := List.replicate n 0
def packB (bs : List Bool) : List Nat := putsB (zerosB ((bs.length + 7) / 8)) 0 bs
theorem putB_len (l : List Nat) (i : Nat) (b : Bool) : (putB l i b).length = l.length := by unfold putB; split <;> simp
theorem putsB_len : ∀ (bs : List Bool) (l : List Nat) (i : Nat), (putsB l i bs).length = l.length
  | [], _, _ => rfl
  | b :: bs, l, i => by rw [putsB, putsB_len bs, putB_len]
theorem packB_len (bs : List Bool) : (packB bs).length = (bs.length + 7) / 8 := by rw [packB, putsB_len]; simp [zerosB]
theorem putsB_append : ∀ (a b : List Bool) (l : List Nat) (i : Nat), putsB l i (a ++ b) = putsB (putsB l i a) (i + a.length) b
  | [], _, _, _ => rfl
  | x :: a, b, l, i => by
    rw [List.cons_append, putsB, putsB_append a b, putsB, List.length_cons]
    congr 1; omega
theorem modify_app (f : Nat → Nat) : ∀ (l m : List Nat) (i : Nat), i < l.length → (l ++ m).modify i f = l.modify i f ++ m
  | a :: l, m, 0, _ => by simp
  | a :: l, m, i + 1, h => by simp [modify_app f l m i (by simpa using h)]
theorem putB_right (l m : List Nat) (i : Nat) (b : Bool) (h : i / 8 < l.length) : putB (l ++ m) i b = putB l i b ++ m := by
  unfold putB
  split
  · exact modify_app _ _ _ _ h
  · rfl
theorem putsB_right : ∀ (bs : List Bool) (l m : List Nat) (i : Nat), (i + bs.length + 7) / 8 ≤ l.length → putsB (l ++ m) i bs = putsB l i bs ++ m
  | [], _, _, _, _ => rfl
  | b :: bs, l, m, i, h => by
    rw [putsB, putB_right l m i b (by simp only [List.length_cons] at h; omega), putsB_right bs _ m (i + 1) (by rw [putB_len]; simp only [List.length_cons] at h; omega), putsB]
/-- One more bit. -/
theorem packB_snoc (bs : List Bool) (b : Bool) : packB (bs ++ [b]) = putB (if bs.length % 8 = 0 then packB bs ++ [0] else packB bs) bs.length b := by
  unfold packB
  rw [putsB_append, Nat.zero_add]
  simp only [putsB, List.length_append, List.length_cons, List.length_nil, Nat.zero_add]
  congr 1
  split
  · rename_i h
    rw [show (bs.length + 1 + 7) / 8 = (bs.length + 7) / 8 + 1 by omega]
    rw [show zerosB ((bs.length + 7) / 8 + 1) = zerosB ((bs.length + 7) / 8) ++ [0] by unfold zerosB; rw [List.replicate_succ']]
    exact putsB_right bs _ _ 0 (by simp [zerosB])
  · rw [show (bs.length + 1 + 7) / 8 = (bs.length + 7) / 8 by omega]
end Go.Abs.M
namespace Go.Abs.M
open Go Go.Abs Go.Proofs
set_option maxRecDepth 20000
set_option linter.unusedSimpArgs false
set_option linter.unusedVariables false

def ptrV (g : Nat) : V := .c (.pointer (some ⟨g, 0, none⟩))
def skC (n : Nat) (v : V) : List V := [.c (.bool true), v, .c (.int .i64 n)]
theorem map3 (a b c : V) : isMap [a, b, c] = false := by cases a <;> rfl
/-- The list that a sink holds. -/
def skN (g : Nat) (σ : Hp) : Option Nat := match σ.obj g with | some [_, .gl k, _] => some k | _ => none
/-- A sink of some bits. -/
def Snk (g : Nat) (bs : List Bool) (σ : Hp) : Prop := (bs = [] ∧ σ.obj g = some (skC 0 (.c (.slice none 0 0)))) ∨ ∃ k, σ.obj g = some (skC bs.length (.gl k)) ∧ σ.gr k = some ((5, 1), (packB bs).map encB)
/-- What else there is stays. -/
structure Fr (g : Nat) (σ σ' : Hp) : Prop where
  obj : ∀ x c, x ≠ g → σ.obj x = some c → σ'.obj x = some c
  gr : ∀ k x, σ.gr k = some x → skN g σ ≠ some k → σ'.gr k = some x ∧ skN g σ' ≠ some k
theorem Fr.refl (g : Nat) (σ : Hp) : Fr g σ σ := ⟨fun _ _ _ h => h, fun _ _ h k => ⟨h, k⟩⟩
theorem Fr.trans {g : Nat} {a b c : Hp} (h : Fr g a b) (k : Fr g b c) : Fr g a c :=
  ⟨fun x d hx hd => k.obj x d hx (h.obj x d hx hd), fun n x hx hn => by
    obtain ⟨h1, h2⟩ := h.gr n x hx hn
    exact k.gr n x h1 h2⟩
theorem encB_at {l : List Nat} {i x : Nat} (h : l[i]? = some x) : (l.map encB).getD i [] = encB x := by simp [List.getD, h]
/-- The next bit's place. -/
def InvB (l : List Nat) (i : Nat) : Prop := ∀ j x, l[j]? = some x → x < 256 ∧ (j = i / 8 → x % 2 ^ (8 - i % 8) = 0) ∧ (i / 8 < j → x = 0)
theorem byte_put : ∀ r : Nat, r < 8 → ∀ x : Nat, x < 256 → x % 2 ^ (8 - r) = 0 → x + 128 / 2 ^ r < 256 ∧ (x + 128 / 2 ^ r) % 2 ^ (7 - r) = 0 ∧ x % 2 ^ (7 - r) = 0 ∧ (BitVec.ofInt 8 (x : Int) ||| BitVec.ofInt 8 ((128 / 2 ^ r : Nat) : Int)).toNat = x + 128 / 2 ^ r := by decide +kernel
theorem InvB.put {l : List Nat} {i : Nat} (h : InvB l i) (b : Bool) : InvB (putB l i b) (i + 1) := by
  intro j x hx
  have key : ∀ y, l[j]? = some y → (x = y ∨ (j = i / 8 ∧ x = y + 128 / 2 ^ (i % 8))) → x < 256 ∧ (j = (i + 1) / 8 → x % 2 ^ (8 - (i + 1) % 8) = 0) ∧ ((i + 1) / 8 < j → x = 0) := fun y hy hxy => by
    obtain ⟨h1, h2, h3⟩ := h j y hy
    by_cases hj : j = i / 8
    · obtain ⟨k1, k2, k3, _⟩ := byte_put (i % 8) (Nat.mod_lt _ (by omega)) y h1 (h2 hj)
      have hp : x % 2 ^ (7 - i % 8) = 0 ∧ x < 256 := by
        rcases hxy with rfl | ⟨_, rfl⟩
        · exact ⟨k3, h1⟩
        · exact ⟨k2, k1⟩
      refine ⟨hp.2, fun e => ?_, fun e => by omega⟩
      rw [show 8 - (i + 1) % 8 = 7 - i % 8 by omega]; exact hp.1
    · have hxy : x = y := by rcases hxy with h | h; exact h; exact absurd h.1 hj
      subst hxy
      refine ⟨h1, fun e => ?_, fun e => h3 (by omega)⟩
      rw [h3 (by omega)]; exact Nat.zero_mod _
  unfold putB at hx
  split at hx
  · rw [List.getElem?_modify] at hx
    cases hl : l[j]? with
    | none => rw [hl] at hx; cases hx
    | some y =>
      rw [hl] at hx
      have hx : (if i / 8 = j then y + 128 / 2 ^ (i % 8) else y) = x := by simpa using hx
      refine key y hl ?_
      split at hx
      · rename_i e; exact .inr ⟨e.symm, hx.symm⟩
      · exact .inl hx.symm
  · exact key x hx (.inl rfl)
theorem InvB.puts : ∀ (bs : List Bool) {l : List Nat} {i : Nat}, InvB l i → InvB (putsB l i bs) (i + bs.length)
  | [], _, _, h => h
  | b :: bs, l, i, h => by
    have := InvB.puts bs (h.put b)
    rw [putsB, List.length_cons, show i + (bs.length + 1) = i + 1 + bs.length by omega]; exact this
theorem packB_inv (bs : List Bool) : InvB (packB bs) bs.length := by
  have := InvB.puts bs (l := zerosB ((bs.length + 7) / 8)) (i := 0) (fun j x hx => by
    unfold zerosB at hx
    rw [List.getElem?_replicate] at hx
    split at hx
    · injection hx with hx; subst hx; exact ⟨by omega, fun _ => Nat.zero_mod _, fun _ => rfl⟩
    · cases hx)
  rwa [Nat.zero_add] at this
/-- The bytes with place for one bit more. -/
def roomB (bs : List Bool) : List Nat := if bs.length % 8 = 0 then packB bs ++ [0] else packB bs
theorem roomB_len (bs : List Bool) : bs.length / 8 < (roomB bs).length ∧ (roomB bs).length ≤ bs.length + 1 := by
  unfold roomB
  split
  · rw [List.length_append, packB_len, List.length_singleton]; omega
  · rw [packB_len]; omega
theorem roomB_inv (bs : List Bool) : InvB (roomB bs) bs.length := by
  unfold roomB
  split
  · intro j x hx
    rcases Nat.lt_or_ge j (packB bs).length with h | h
    · rw [List.getElem?_append_left h] at hx
      exact packB_inv bs j x hx
    · rw [List.getElem?_append_right h] at hx
      cases hj : j - (packB bs).length with
      | zero => rw [hj] at hx; injection hx with hx; subst hx; exact ⟨by omega, fun _ => Nat.zero_mod _, fun _ => rfl⟩
      | succ q => rw [hj] at hx; cases hx
  · exact packB_inv bs
theorem modify_set (f : Nat → Nat) : ∀ (l : List Nat) (i x : Nat), l[i]? = some x → l.modify i f = l.set i (f x)
  | a :: l, 0, x, h => by simp at h; subst h; rfl
  | a :: l, i + 1, x, h => by simp at h; simp [modify_set f l i x (by simpa using h)]
theorem roomB_put (bs : List Bool) : ∃ x, (roomB bs)[bs.length / 8]? = some x ∧ x < 256 ∧ packB (bs ++ [true]) = (roomB bs).set (bs.length / 8) (x + 128 / 2 ^ (bs.length % 8)) ∧ x + 128 / 2 ^ (bs.length % 8) < 256 ∧
    (BitVec.ofInt 8 (x : Int) ||| BitVec.ofInt 8 ((128 / 2 ^ (bs.length % 8) : Nat) : Int)).toNat = x + 128 / 2 ^ (bs.length % 8) := by
  have hl := (roomB_len bs).1
  refine ⟨_, List.getElem?_eq_getElem hl, ?_⟩
  obtain ⟨h1, h2, _⟩ := roomB_inv bs _ _ (List.getElem?_eq_getElem hl)
  obtain ⟨k1, k2, k3, k4⟩ := byte_put (bs.length % 8) (Nat.mod_lt _ (by omega)) _ h1 (h2 rfl)
  refine ⟨h1, ?_, k1, k4⟩
  rw [packB_snoc]
  show putB (roomB bs) _ _ = _
  unfold putB
  rw [if_pos rfl]
  exact modify_set _ _ _ _ (List.getElem?_eq_getElem hl)
theorem packB_no (bs : List Bool) : packB (bs ++ [false]) = roomB bs := by rw [packB_snoc]; rfl
theorem tm8 (n : Nat) : (n : Int).tmod 8 = ((n % 8 : Nat) : Int) := rfl
theorem tq8 (n : Nat) : (n : Int).tdiv 8 = ((n / 8 : Nat) : Int) := rfl
theorem sh128 (r : Nat) (h : r < 8) : Int.fdiv 128 ((2 : Int) ^ min (Int.toNat (r : Int)) IntKind.u8.bits) = ((128 / 2 ^ r : Nat) : Int) := by
  have : ∀ r : Nat, r < 8 → Int.fdiv 128 ((2 : Int) ^ min (Int.toNat (r : Int)) IntKind.u8.bits) = ((128 / 2 ^ r : Nat) : Int) := by decide +kernel
  exact this r h
theorem wrap_u8 {n : Nat} (h : n < 256) : IntKind.u8.wrap (n : Int) = n := by
  have : ∀ n, n < 256 → IntKind.u8.wrap ((n : Nat) : Int) = n := by decide +kernel
  exact this n h
end Go.Abs.M
namespace Go.Abs.M
open Go Go.Abs Go.Proofs
set_option maxRecDepth 20000
set_option linter.unusedSimpArgs false
set_option linter.unusedVariables false

theorem Fr.grow {g : Nat} {σ : Hp} {ok : Option Nat} {k2 n : Nat} {x : (TypeId × Nat) × List (List V)} (ho : skN g σ = ok) (hk2 : (σ.delO ok).gr k2 = none) : Fr g σ (((σ.delO ok).setGr k2 (some x)).setObj g (some (skC n (.gl k2)))) := by
  refine ⟨fun y c hy hc => ?_, fun k y hk hn => ?_⟩
  · cases ok <;> simp [Hp.delO, hy, hc]
  · have hd : (σ.delO ok).gr k = some y := by
      cases ok with
      | none => exact hk
      | some q =>
        have : k ≠ q := fun e => hn (by rw [ho, e])
        simp [Hp.delO, this, hk]
    have hne : k ≠ k2 := fun e => by rw [e, hk2] at hd; cases hd
    refine ⟨by simp [hne, hd], ?_⟩
    simp [skN, skC]
    exact fun e => hne e.symm
theorem put_spec (g : Nat) (bs : List Bool) (b : Bool) (σ : Hp) (hs : Snk g bs σ) (hl : bs.length < 1099511627776) :
    ACalls Try.prog 116 [ptrV g, .c (.bool b)] σ (fun v σ' => v = .tup [] ∧ Snk g (bs ++ [b]) σ' ∧ Fr g σ σ') := by
  refine ACalls.intro Try.call116 Try.func116 rfl Try.ntmps116 Try.results116 (by simp) ?_
  have hr8 : (bs.length : Int).tmod 8 = ((bs.length % 8 : Nat) : Int) := rfl
  have hd8 : (((bs.length % 8 : Nat) : Int) == 0) = decide (bs.length % 8 = 0) := by rw [Bool.eq_iff_iff]; simp; omega
  have hq8 : (bs.length : Int).tdiv 8 = ((bs.length / 8 : Nat) : Int) := rfl
  have hwq : IntKind.i64.wrap ((bs.length / 8 : Nat) : Int) = ((bs.length / 8 : Nat) : Int) := wrap_small _ (by omega) (by omega)
  have hw1 : IntKind.i64.wrap ((bs.length : Int) + 1) = ((bs.length + 1 : Nat) : Int) := by rw [wrap_small _ (by omega) (by omega)]; rfl
  refine AW.seq_j (fun s σ' => s.t 0 = ptrV g ∧ s.t 1 = .c (.bool b) ∧ ∃ k, σ'.obj g = some (skC bs.length (.gl k)) ∧ σ'.gr k = some ((5, 1), (roomB bs).map encB) ∧ Fr g σ σ') ?_ ?_
  · rcases hs with ⟨hb0, ho⟩ | ⟨k, ho, hk⟩
    · have hz : bs.length = 0 := by rw [hb0]; rfl
      have hn : skN g σ = none := by unfold skN; rw [ho]; rfl
      have ho : σ.obj g = some [.c (.bool true), .c (.slice none 0 0), .c (.int .i64 (bs.length : Nat))] := by rw [ho, hz]; rfl
      refine AW.seq_k fun K1 h1 => ?_
      all_goals refine AW.reg0 ?_
      all_goals iterate 6 (refine S.g rfl rfl fun K' k' => ?_; simp only [zz, reduceIte, Nat.reduceEqDiff, Nat.reduceLT, Nat.reduceLeDiff, Nat.reduceAdd, reduceCtorEq, Nat.reduceMul, of114_2, ok3, sz3, ag3, ptrV, ho, map3, Int.reduceEq, hr8, hd8, List.getD_cons_succ, List.getD_cons_zero]; refine k' _ _ ?_; clear k' K')
      all_goals refine S.nil ?_
      all_goals simp only [ze, reduceIte, Nat.reduceEqDiff, Nat.reduceLT, Nat.reduceLeDiff, Nat.reduceAdd, reduceCtorEq, Nat.reduceMul, ptrV, ho, map3, Int.reduceEq, hr8, hd8, List.getD_cons_succ, List.getD_cons_zero]
      all_goals first | refine h1 _ _ ?_
      refine AW.cond (b := true) (by simp [ev, hz]) (fun hc => ?_) (fun hc => by cases hc)
      all_goals refine AW.reg0 ?_
      all_goals iterate 5 (refine S.g rfl rfl fun K' k' => ?_; simp only [zz, reduceIte, Nat.reduceEqDiff, Nat.reduceLT, Nat.reduceLeDiff, Nat.reduceAdd, reduceCtorEq, Nat.reduceMul, of114_1, ok48, sz48, ag48, ptrV, ho, map3, List.getD_cons_succ, List.getD_cons_zero]; refine k' _ _ ?_; clear k' K')
      all_goals (refine S.g rfl rfl fun K' k' => ?_; simp only [zb, reduceIte, Nat.reduceEqDiff, Nat.reduceLT, Nat.reduceLeDiff, Nat.reduceAdd, reduceCtorEq, Nat.reduceMul, sl48, el48, ok5, sz5, ag5, zt5, by5, ptrV, ho, map3, List.getD_cons_succ, List.getD_cons_zero]; refine k' _ _ ?_; clear k' K')
      all_goals (refine S.g rfl rfl fun K' k' => ?_; simp only [zz, reduceIte, Nat.reduceEqDiff, Nat.reduceLT, Nat.reduceLeDiff, Nat.reduceAdd, reduceCtorEq, Nat.reduceMul, sl48, el48, ok5, sz5, ag5, zt5, by5, ptrV, ho, map3, List.getD_cons_succ, List.getD_cons_zero]; refine ⟨by simp [encB], by unfold maxLen; (try simp only [packB_len, List.length_append, List.length_map, List.length_cons, List.length_nil]); omega, by unfold reach; (try simp only [packB_len, List.length_append, List.length_map, List.length_cons, List.length_nil]); omega, fun k2 hk2 => ?_⟩ <;> (refine k' _ _ ?_; clear k' K'))
      all_goals iterate 3 (refine S.g rfl rfl fun K' k' => ?_; simp only [zz, reduceIte, Nat.reduceEqDiff, Nat.reduceLT, Nat.reduceLeDiff, Nat.reduceAdd, reduceCtorEq, Nat.reduceMul, of114_1, ok48, sz48, ag48, ptrV, ho, map3, List.getD_cons_succ, List.getD_cons_zero]; refine k' _ _ ?_; clear k' K')
      all_goals refine S.nil ?_
      all_goals simp only [ze, reduceIte, Nat.reduceEqDiff, Nat.reduceLT, Nat.reduceLeDiff, Nat.reduceAdd, reduceCtorEq, Nat.reduceMul, ptrV, ho, map3, List.getD_cons_succ, List.getD_cons_zero]
      refine ⟨k2, by simp [skC], ?_, ?_⟩
      · simp [roomB, hb0, encB]; decide
      · have := Fr.grow (x := ((5, 1), [[V.c (Value.int IntKind.u8 0)]])) (n := bs.length) hn (k2 := k2) hk2
        exact this
    · have hn : skN g σ = some k := by unfold skN; rw [ho]; rfl
      unfold skC at ho
      refine AW.seq_k fun K2 h2 => ?_
      all_goals refine AW.reg0 ?_
      all_goals iterate 6 (refine S.g rfl rfl fun K' k' => ?_; simp only [zz, reduceIte, Nat.reduceEqDiff, Nat.reduceLT, Nat.reduceLeDiff, Nat.reduceAdd, reduceCtorEq, Nat.reduceMul, of114_2, ok3, sz3, ag3, ptrV, ho, map3, Int.reduceEq, hr8, hd8, List.getD_cons_succ, List.getD_cons_zero]; refine k' _ _ ?_; clear k' K')
      all_goals refine S.nil ?_
      all_goals simp only [ze, reduceIte, Nat.reduceEqDiff, Nat.reduceLT, Nat.reduceLeDiff, Nat.reduceAdd, reduceCtorEq, Nat.reduceMul, ptrV, ho, map3, Int.reduceEq, hr8, hd8, List.getD_cons_succ, List.getD_cons_zero]
      all_goals first | refine h2 _ _ ?_ | refine h1 _ _ ?_
      refine AW.cond (b := decide (bs.length % 8 = 0)) (by simp [ev]; try omega) (fun hc => ?_) (fun hc => ?_)
      · skip
        all_goals refine AW.reg0 ?_
        all_goals iterate 5 (refine S.g rfl rfl fun K' k' => ?_; simp only [zz, reduceIte, Nat.reduceEqDiff, Nat.reduceLT, Nat.reduceLeDiff, Nat.reduceAdd, reduceCtorEq, Nat.reduceMul, of114_1, ok48, sz48, ag48, ptrV, ho, hk, map3, List.getD_cons_succ, List.getD_cons_zero]; refine k' _ _ ?_; clear k' K')
        all_goals (refine S.g rfl rfl fun K' k' => ?_; simp only [zb, reduceIte, Nat.reduceEqDiff, Nat.reduceLT, Nat.reduceLeDiff, Nat.reduceAdd, reduceCtorEq, Nat.reduceMul, sl48, el48, ok5, sz5, ag5, zt5, by5, ptrV, ho, hk, map3, List.getD_cons_succ, List.getD_cons_zero]; refine k' _ _ ?_; clear k' K')
        all_goals (refine S.g rfl rfl fun K' k' => ?_; simp only [zz, reduceIte, Nat.reduceEqDiff, Nat.reduceLT, Nat.reduceLeDiff, Nat.reduceAdd, reduceCtorEq, Nat.reduceMul, sl48, el48, ok5, sz5, ag5, zt5, by5, ptrV, ho, hk, map3, List.getD_cons_succ, List.getD_cons_zero]; refine ⟨by simp [encB], by unfold maxLen; (try simp only [packB_len, List.length_append, List.length_map, List.length_cons, List.length_nil]); omega, by unfold reach; (try simp only [packB_len, List.length_append, List.length_map, List.length_cons, List.length_nil]); omega, fun k2 hk2 => ?_⟩ <;> (refine k' _ _ ?_; clear k' K'))
        all_goals iterate 3 (refine S.g rfl rfl fun K' k' => ?_; simp only [zz, reduceIte, Nat.reduceEqDiff, Nat.reduceLT, Nat.reduceLeDiff, Nat.reduceAdd, reduceCtorEq, Nat.reduceMul, of114_1, ok48, sz48, ag48, ptrV, ho, hk, map3, List.getD_cons_succ, List.getD_cons_zero]; refine k' _ _ ?_; clear k' K')
        all_goals refine S.nil ?_
        all_goals simp only [ze, reduceIte, Nat.reduceEqDiff, Nat.reduceLT, Nat.reduceLeDiff, Nat.reduceAdd, reduceCtorEq, Nat.reduceMul, ptrV, ho, hk, map3, List.getD_cons_succ, List.getD_cons_zero]
        have hc := of_decide_eq_true hc
        refine ⟨k2, by simp [skC], ?_, ?_⟩
        · simp [roomB, hc, encB]
        · exact Fr.grow (ok := some k) hn hk2
      · refine AW.skip ?_
        all_goals simp only [zs, reduceIte, Nat.reduceEqDiff, Nat.reduceLT, Nat.reduceLeDiff, Nat.reduceAdd, reduceCtorEq, Nat.reduceMul]
        have hc := of_decide_eq_false hc
        refine ⟨rfl, k, ho, ?_, Fr.refl g σ⟩
        simp [roomB, hc, hk]
  rintro s σ' ⟨e0, e1, k, ho, hk, hf⟩
  have hn : skN g σ' = some k := by unfold skN; rw [ho]; rfl
  have ho2 := ho
  unfold skC at ho
  unfold ptrV at e0
  obtain ⟨x, hx, hx1, hx2, hx3, hx4⟩ := roomB_put bs
  have hlen := roomB_len bs
  have hxe := encB_at hx
  have h128 : Int.fdiv 128 ((2 : Int) ^ min (bs.length % 8) IntKind.u8.bits) = ((128 / 2 ^ (bs.length % 8) : Nat) : Int) := sh128 (bs.length % 8) (Nat.mod_lt _ (by omega))
  have hx4 : (BitVec.ofInt IntKind.u8.bits (x : Int) ||| BitVec.ofInt IntKind.u8.bits ((128 / 2 ^ (bs.length % 8) : Nat) : Int)).toNat = x + 128 / 2 ^ (bs.length % 8) := hx4
  have hwo := wrap_u8 hx3
  have hpos : (0 : Int) ≤ ((bs.length % 8 : Nat) : Int) := Int.natCast_nonneg _
  have hpo2 : (0 : Int) ≤ ((bs.length / 8 : Nat) : Int) := Int.natCast_nonneg _
  have hlt : ((bs.length / 8 : Nat) : Int) < ((roomB bs).length : Int) := by have := hlen.1; omega
  refine AW.seq_j (fun s2 σ2 => s2.t 0 = ptrV g ∧ ∃ k, σ2.obj g = some (skC bs.length (.gl k)) ∧ σ2.gr k = some ((5, 1), (packB (bs ++ [b])).map encB) ∧ Fr g σ' σ2) ?_ ?_
  · refine AW.seq_k fun K3 h3 => ?_
    all_goals refine AW.reg0 ?_
    all_goals (refine S.g rfl rfl fun K' k' => ?_; simp only [zz, reduceIte, Nat.reduceEqDiff, Nat.reduceAdd, e1]; refine k' _ _ ?_; clear k' K')
    all_goals refine S.nil ?_
    all_goals simp only [ze, reduceIte, Nat.reduceEqDiff, Nat.reduceLT, Nat.reduceLeDiff, Nat.reduceAdd, reduceCtorEq, Nat.reduceMul, e1]
    all_goals first | refine h3 _ _ ?_ | refine h2 _ _ ?_ | refine h1 _ _ ?_
    refine AW.cond (b := b) (by simp [ev]) (fun hc => ?_) (fun hc => ?_)
    · subst hc
      all_goals refine AW.drawF (T := { sd := fun _ => false }) (fun _ _ h => by cases h) mixedO (.st 0 0 (.st 1 0 (.st 2 0 (.st 4 0 (.st 5 0 (.st 6 0 (.st 11 0 (.st 12 0 (.st 13 0 (.fork3 3 (.fork 7 (.st 8 0 (.st 9 0 (.fork 10 (.st 14 2 (.st 15 0 (.st 16 0 (.st 17 0 (.st 18 0 (.st 19 2 .nil)))))) 14 (.st 15 0 (.st 16 0 (.st 10 2 (.st 17 0 (.st 18 0 (.st 19 2 .nil))))))))) 14 (.st 15 0 (.st 16 0 (.st 7 2 (.st 8 0 (.st 9 0 (.st 10 2 (.st 17 0 (.st 18 0 (.st 19 2 .nil)))))))))) 7 (.st 8 0 (.fork 3 (.st 9 0 (.fork 10 (.st 14 2 (.st 15 0 (.st 16 0 (.st 17 0 (.st 18 0 (.st 19 2 .nil)))))) 14 (.st 15 0 (.st 16 0 (.st 10 2 (.st 17 0 (.st 18 0 (.st 19 2 .nil)))))))) 14 (.st 15 0 (.st 16 0 (.st 3 2 (.st 9 0 (.st 10 2 (.st 17 0 (.st 18 0 (.st 19 2 .nil)))))))))) 14 (.st 15 0 (.st 16 0 (.fork 3 (.st 7 2 (.st 8 0 (.st 9 0 (.st 10 2 (.st 17 0 (.st 18 0 (.st 19 2 .nil))))))) 7 (.st 8 0 (.st 3 2 (.st 9 0 (.st 10 2 (.st 17 0 (.st 18 0 (.st 19 2 .nil)))))))))))))))))))) rfl (by kernel_rfl) (by kernel_rfl) ?_
      all_goals iterate 9 (refine F.g rfl trivial rfl rfl fun K' k' => ?_; simp only [zz, reduceIte, Nat.reduceEqDiff, Nat.reduceLT, Nat.reduceLeDiff, Nat.reduceAdd, reduceCtorEq, Nat.reduceMul, of114_1, of114_2, e0, e1, ho, hk, map3, Int.reduceEq, hr8, hq8, hwq, hxe, h128, hwo, hx4, hpos, hpo2, hlt, hlen.1, encB, List.length_singleton, List.getD_cons_succ, List.getD_cons_zero]; refine k' _ _ ?_; clear k' K')
      all_goals (try first | refine F.fork ?_ ?_ | refine F.fork3 ?_ ?_ ?_)
      all_goals first | (refine F.g rfl trivial rfl rfl fun K' k' => ?_; simp only [zz, reduceIte, Nat.reduceEqDiff, Nat.reduceLT, Nat.reduceLeDiff, Nat.reduceAdd, reduceCtorEq, Nat.reduceMul, ok48, sz48, ag48, e0, e1, ho, hk, map3, Int.reduceEq, hr8, hq8, hwq, hxe, h128, hwo, hx4, hpos, hpo2, hlt, hlen.1, encB, List.length_singleton, List.getD_cons_succ, List.getD_cons_zero]; refine k' _ _ ?_; clear k' K') | (refine F.g rfl trivial rfl rfl fun K' k' => ?_; simp only [zz, reduceIte, Nat.reduceEqDiff, Nat.reduceLT, Nat.reduceLeDiff, Nat.reduceAdd, reduceCtorEq, Nat.reduceMul, ok3, sz3, ag3, e0, e1, ho, hk, map3, Int.reduceEq, hr8, hq8, hwq, hxe, h128, hwo, hx4, hpos, hpo2, hlt, hlen.1, encB, List.length_singleton, List.getD_cons_succ, List.getD_cons_zero]; refine k' _ _ ?_; clear k' K')
      all_goals (try first | refine F.fork ?_ ?_ | refine F.fork3 ?_ ?_ ?_)
      all_goals first | (refine F.g rfl trivial rfl rfl fun K' k' => ?_; simp only [zz, reduceIte, Nat.reduceEqDiff, Nat.reduceLT, Nat.reduceLeDiff, Nat.reduceAdd, reduceCtorEq, Nat.reduceMul, ok3, sz3, ag3, e0, e1, ho, hk, map3, Int.reduceEq, hr8, hq8, hwq, hxe, h128, hwo, hx4, hpos, hpo2, hlt, hlen.1, encB, List.length_singleton, List.getD_cons_succ, List.getD_cons_zero]; refine k' _ _ ?_; clear k' K') | (refine F.g rfl trivial rfl rfl fun K' k' => ?_; simp only [zz, reduceIte, Nat.reduceEqDiff, Nat.reduceLT, Nat.reduceLeDiff, Nat.reduceAdd, reduceCtorEq, Nat.reduceMul, e0, e1, ho, hk, map3, Int.reduceEq, hr8, hq8, hwq, hxe, h128, hwo, hx4, hpos, hpo2, hlt, hlen.1, encB, List.length_singleton, List.getD_cons_succ, List.getD_cons_zero]; refine k' _ _ ?_; clear k' K')
      all_goals (try first | refine F.fork ?_ ?_ | refine F.fork3 ?_ ?_ ?_)
      all_goals first | (refine F.g rfl trivial rfl rfl fun K' k' => ?_; simp only [zz, reduceIte, Nat.reduceEqDiff, Nat.reduceLT, Nat.reduceLeDiff, Nat.reduceAdd, reduceCtorEq, Nat.reduceMul, e0, e1, ho, hk, map3, Int.reduceEq, hr8, hq8, hwq, hxe, h128, hwo, hx4, hpos, hpo2, hlt, hlen.1, encB, List.length_singleton, List.getD_cons_succ, List.getD_cons_zero]; refine k' _ _ ?_; clear k' K') | (refine F.g rfl trivial rfl rfl fun K' k' => ?_; simp only [zz, reduceIte, Nat.reduceEqDiff, Nat.reduceLT, Nat.reduceLeDiff, Nat.reduceAdd, reduceCtorEq, Nat.reduceMul, ok48, sz48, ag48, e0, e1, ho, hk, map3, Int.reduceEq, hr8, hq8, hwq, hxe, h128, hwo, hx4, hpos, hpo2, hlt, hlen.1, encB, List.length_singleton, List.getD_cons_succ, List.getD_cons_zero]; refine k' _ _ ?_; clear k' K') | (refine F.g rfl trivial rfl rfl fun K' k' => ?_; simp only [zz, reduceIte, Nat.reduceEqDiff, Nat.reduceLT, Nat.reduceLeDiff, Nat.reduceAdd, reduceCtorEq, Nat.reduceMul, ok3, sz3, ag3, e0, e1, ho, hk, map3, Int.reduceEq, hr8, hq8, hwq, hxe, h128, hwo, hx4, hpos, hpo2, hlt, hlen.1, encB, List.length_singleton, List.getD_cons_succ, List.getD_cons_zero]; refine k' _ _ ?_; clear k' K')
      all_goals (try first | refine F.fork ?_ ?_ | refine F.fork3 ?_ ?_ ?_)
      all_goals first | (refine F.g rfl trivial rfl rfl fun K' k' => ?_; simp only [zz, reduceIte, Nat.reduceEqDiff, Nat.reduceLT, Nat.reduceLeDiff, Nat.reduceAdd, reduceCtorEq, Nat.reduceMul, sl48, el48, ok5, sz5, ag5, e0, e1, ho, hk, map3, Int.reduceEq, hr8, hq8, hwq, hxe, h128, hwo, hx4, hpos, hpo2, hlt, hlen.1, encB, List.length_singleton, List.getD_cons_succ, List.getD_cons_zero]; refine k' _ _ ?_; clear k' K') | (refine F.g rfl trivial rfl rfl fun K' k' => ?_; simp only [zz, reduceIte, Nat.reduceEqDiff, Nat.reduceLT, Nat.reduceLeDiff, Nat.reduceAdd, reduceCtorEq, Nat.reduceMul, e0, e1, ho, hk, map3, Int.reduceEq, hr8, hq8, hwq, hxe, h128, hwo, hx4, hpos, hpo2, hlt, hlen.1, encB, List.length_singleton, List.getD_cons_succ, List.getD_cons_zero]; refine k' _ _ ?_; clear k' K') | (refine F.g rfl trivial rfl rfl fun K' k' => ?_; simp only [zz, reduceIte, Nat.reduceEqDiff, Nat.reduceLT, Nat.reduceLeDiff, Nat.reduceAdd, reduceCtorEq, Nat.reduceMul, ok48, sz48, ag48, e0, e1, ho, hk, map3, Int.reduceEq, hr8, hq8, hwq, hxe, h128, hwo, hx4, hpos, hpo2, hlt, hlen.1, encB, List.length_singleton, List.getD_cons_succ, List.getD_cons_zero]; refine k' _ _ ?_; clear k' K') | (refine F.g rfl trivial rfl rfl fun K' k' => ?_; simp only [zz, reduceIte, Nat.reduceEqDiff, Nat.reduceLT, Nat.reduceLeDiff, Nat.reduceAdd, reduceCtorEq, Nat.reduceMul, ok3, sz3, ag3, e0, e1, ho, hk, map3, Int.reduceEq, hr8, hq8, hwq, hxe, h128, hwo, hx4, hpos, hpo2, hlt, hlen.1, encB, List.length_singleton, List.getD_cons_succ, List.getD_cons_zero]; refine k' _ _ ?_; clear k' K')
      all_goals (try first | refine F.fork ?_ ?_ | refine F.fork3 ?_ ?_ ?_)
      all_goals first | (refine F.g rfl trivial rfl rfl fun K' k' => ?_; simp only [zz, reduceIte, Nat.reduceEqDiff, Nat.reduceLT, Nat.reduceLeDiff, Nat.reduceAdd, reduceCtorEq, Nat.reduceMul, ok5, sz5, ag5, e0, e1, ho, hk, map3, Int.reduceEq, hr8, hq8, hwq, hxe, h128, hwo, hx4, hpos, hpo2, hlt, hlen.1, encB, List.length_singleton, List.getD_cons_succ, List.getD_cons_zero]; refine k' _ _ ?_; clear k' K') | (refine F.g rfl trivial rfl rfl fun K' k' => ?_; simp only [zz, reduceIte, Nat.reduceEqDiff, Nat.reduceLT, Nat.reduceLeDiff, Nat.reduceAdd, reduceCtorEq, Nat.reduceMul, ok3, sz3, ag3, e0, e1, ho, hk, map3, Int.reduceEq, hr8, hq8, hwq, hxe, h128, hwo, hx4, hpos, hpo2, hlt, hlen.1, encB, List.length_singleton, List.getD_cons_succ, List.getD_cons_zero]; refine k' _ _ ?_; clear k' K') | (refine F.g rfl trivial rfl rfl fun K' k' => ?_; simp only [zz, reduceIte, Nat.reduceEqDiff, Nat.reduceLT, Nat.reduceLeDiff, Nat.reduceAdd, reduceCtorEq, Nat.reduceMul, e0, e1, ho, hk, map3, Int.reduceEq, hr8, hq8, hwq, hxe, h128, hwo, hx4, hpos, hpo2, hlt, hlen.1, encB, List.length_singleton, List.getD_cons_succ, List.getD_cons_zero]; refine k' _ _ ?_; clear k' K')
      all_goals first | (refine F.g rfl trivial rfl rfl fun K' k' => ?_; simp only [zz, reduceIte, Nat.reduceEqDiff, Nat.reduceLT, Nat.reduceLeDiff, Nat.reduceAdd, reduceCtorEq, Nat.reduceMul, ok3, sz3, ag3, e0, e1, ho, hk, map3, Int.reduceEq, hr8, hq8, hwq, hxe, h128, hwo, hx4, hpos, hpo2, hlt, hlen.1, encB, List.length_singleton, List.getD_cons_succ, List.getD_cons_zero]; refine k' _ _ ?_; clear k' K') | (refine F.g rfl trivial rfl rfl fun K' k' => ?_; simp only [zz, reduceIte, Nat.reduceEqDiff, Nat.reduceLT, Nat.reduceLeDiff, Nat.reduceAdd, reduceCtorEq, Nat.reduceMul, e0, e1, ho, hk, map3, Int.reduceEq, hr8, hq8, hwq, hxe, h128, hwo, hx4, hpos, hpo2, hlt, hlen.1, encB, List.length_singleton, List.getD_cons_succ, List.getD_cons_zero]; refine k' _ _ ?_; clear k' K') | (refine F.g rfl trivial rfl rfl fun K' k' => ?_; simp only [zz, reduceIte, Nat.reduceEqDiff, Nat.reduceLT, Nat.reduceLeDiff, Nat.reduceAdd, reduceCtorEq, Nat.reduceMul, ok48, sz48, ag48, e0, e1, ho, hk, map3, Int.reduceEq, hr8, hq8, hwq, hxe, h128, hwo, hx4, hpos, hpo2, hlt, hlen.1, encB, List.length_singleton, List.getD_cons_succ, List.getD_cons_zero]; refine k' _ _ ?_; clear k' K')
      all_goals first | (refine F.g rfl trivial rfl rfl fun K' k' => ?_; simp only [zz, reduceIte, Nat.reduceEqDiff, Nat.reduceLT, Nat.reduceLeDiff, Nat.reduceAdd, reduceCtorEq, Nat.reduceMul, e0, e1, ho, hk, map3, Int.reduceEq, hr8, hq8, hwq, hxe, h128, hwo, hx4, hpos, hpo2, hlt, hlen.1, encB, List.length_singleton, List.getD_cons_succ, List.getD_cons_zero]; refine k' _ _ ?_; clear k' K') | (refine F.g rfl trivial rfl rfl fun K' k' => ?_; simp only [zz, reduceIte, Nat.reduceEqDiff, Nat.reduceLT, Nat.reduceLeDiff, Nat.reduceAdd, reduceCtorEq, Nat.reduceMul, sl48, el48, ok5, sz5, ag5, e0, e1, ho, hk, map3, Int.reduceEq, hr8, hq8, hwq, hxe, h128, hwo, hx4, hpos, hpo2, hlt, hlen.1, encB, List.length_singleton, List.getD_cons_succ, List.getD_cons_zero]; refine k' _ _ ?_; clear k' K')
      all_goals first | (refine F.g rfl trivial rfl rfl fun K' k' => ?_; simp only [zz, reduceIte, Nat.reduceEqDiff, Nat.reduceLT, Nat.reduceLeDiff, Nat.reduceAdd, reduceCtorEq, Nat.reduceMul, e0, e1, ho, hk, map3, Int.reduceEq, hr8, hq8, hwq, hxe, h128, hwo, hx4, hpos, hpo2, hlt, hlen.1, encB, List.length_singleton, List.getD_cons_succ, List.getD_cons_zero]; refine k' _ _ ?_; clear k' K') | (refine F.g rfl trivial rfl rfl fun K' k' => ?_; simp only [zz, reduceIte, Nat.reduceEqDiff, Nat.reduceLT, Nat.reduceLeDiff, Nat.reduceAdd, reduceCtorEq, Nat.reduceMul, ok5, sz5, ag5, e0, e1, ho, hk, map3, Int.reduceEq, hr8, hq8, hwq, hxe, h128, hwo, hx4, hpos, hpo2, hlt, hlen.1, encB, List.length_singleton, List.getD_cons_succ, List.getD_cons_zero]; refine k' _ _ ?_; clear k' K')
      all_goals iterate 3 (refine F.g rfl trivial rfl rfl fun K' k' => ?_; simp only [zz, reduceIte, Nat.reduceEqDiff, Nat.reduceLT, Nat.reduceLeDiff, Nat.reduceAdd, reduceCtorEq, Nat.reduceMul, sl48, el48, ok5, sz5, ag5, e0, e1, ho, hk, map3, Int.reduceEq, hr8, hq8, hwq, hxe, h128, hwo, hx4, hpos, hpo2, hlt, hlen.1, encB, List.length_singleton, List.getD_cons_succ, List.getD_cons_zero]; refine k' _ _ ?_; clear k' K')
      all_goals refine F.nil ?_
      all_goals simp only [ze, reduceIte, Nat.reduceEqDiff, Nat.reduceLT, Nat.reduceLeDiff, Nat.reduceAdd, reduceCtorEq, Nat.reduceMul, e0, e1, ho, hk, map3, Int.reduceEq, hr8, hq8, hwq, hxe, h128, hwo, hx4, hpos, hpo2, hlt, hlen.1, encB, List.length_singleton, List.getD_cons_succ, List.getD_cons_zero]
      all_goals
        refine ⟨rfl, k, by simp [skC], ?_, ?_⟩
        · simp [hx2, encB, List.map_set]
        · refine ⟨fun y c hy hc => hc, fun q y hq hnq => ?_⟩
          have hqk : q ≠ k := fun e => hnq (by rw [hn, e])
          exact ⟨by simp [hqk, hq], hnq⟩
    · refine AW.skip ?_
      all_goals simp only [zs, reduceIte, Nat.reduceEqDiff, Nat.reduceLT, Nat.reduceLeDiff, Nat.reduceAdd, reduceCtorEq, Nat.reduceMul]
      subst hc
      exact ⟨by simp [e0, ptrV], k, ho2, by rw [packB_no]; exact hk, Fr.refl g σ'⟩
  clear hxe hx4 h128 hwo hx2 hx3 hx
  rintro s2 σ2 ⟨f0, k2, fo, fk, ff⟩
  unfold skC at fo
  unfold ptrV at f0
  all_goals refine AW.reg0 ?_
  all_goals iterate 8 (refine S.g rfl rfl fun K' k' => ?_; simp only [zz, reduceIte, Nat.reduceEqDiff, Nat.reduceLT, Nat.reduceLeDiff, Nat.reduceAdd, reduceCtorEq, Nat.reduceMul, of114_2, ok3, sz3, ag3, f0, fo, map3, hw1]; refine k' _ _ ?_; clear k' K')
  all_goals refine S.nil ?_
  all_goals simp only [ze, reduceIte, Nat.reduceEqDiff, Nat.reduceLT, Nat.reduceLeDiff, Nat.reduceAdd, reduceCtorEq, Nat.reduceMul, f0, fo, map3, hw1]
  have hg : (σ2.setObj g (some [V.c (Value.bool true), V.gl k2, V.c (Value.int IntKind.i64 ((bs.length + 1 : Nat) : Int))])).obj g = some (skC (bs ++ [b]).length (.gl k2)) := by simp [skC]
  refine ⟨rfl, .inr ⟨k2, hg, by simp [fk]⟩, (hf.trans ff).trans ⟨fun y c hy hc => by simp [hy, hc], fun q y hq hnq => ⟨by simp [hq], ?_⟩⟩⟩
  unfold skN at hnq ⊢
  rw [fo] at hnq
  rw [hg]
  exact hnq
end Go.Abs.M
namespace Go.Abs.M
open Go Go.Abs Go.Proofs
set_option maxRecDepth 20000
set_option linter.unusedSimpArgs false
set_option linter.unusedVariables false

theorem wrap_u64 {n : Nat} (h : n < 18446744073709551616) : IntKind.u64.wrap (n : Int) = n := by
  unfold IntKind.wrap
  simp [IntKind.signed, IntKind.bits]
  omega
theorem and1 {x : Nat} (h : x < 18446744073709551616) : IntKind.u64.wrap ((BitVec.ofInt IntKind.u64.bits (x : Int) &&& BitVec.ofInt IntKind.u64.bits 1).toNat : Int) = ((x % 2 : Nat) : Int) := by
  have : (BitVec.ofInt IntKind.u64.bits (x : Int) &&& BitVec.ofInt IntKind.u64.bits 1).toNat = x % 2 := by
    rw [BitVec.toNat_and]
    have h1 : (BitVec.ofInt IntKind.u64.bits (x : Int)).toNat = x := by
      rw [BitVec.ofInt_natCast, BitVec.toNat_ofNat]; exact Nat.mod_eq_of_lt h
    have h2 : (BitVec.ofInt IntKind.u64.bits 1).toNat = 1 := by decide
    rw [h1, h2, Nat.and_one_is_mod]
  rw [this, wrap_u64 (by omega)]
theorem shr64 (u k : Nat) (h : k ≤ 64) : Int.fdiv (u : Int) ((2 : Int) ^ min k IntKind.u64.bits) = ((u / 2 ^ k : Nat) : Int) := by
  rw [show min k IntKind.u64.bits = k from Nat.min_eq_left h]
  rw [show ((2 : Int) ^ k) = ((2 ^ k : Nat) : Int) by simp]
  exact (Int.ofNat_fdiv u (2 ^ k)).symm
theorem okPt (g : Nat) : okV (ptrV g) = true := rfl
theorem wkPt (g : Nat) : wk (ptrV g) = ptrV g := rfl
theorem eq1 (x : Nat) : (((x % 2 : Nat) : Int) == 1) = (x % 2 == 1) := by rw [Bool.eq_iff_iff]; simp; omega
theorem all_spec (g : Nat) (bs : List Bool) (u n : Nat) (σ : Hp) (hs : Snk g bs σ) (hl : bs.length < 549755813888) (hn : n ≤ 64) (hu : u < 18446744073709551616) :
    ACalls Try.prog 88 [ptrV g, .c (.int .u64 u), .c (.int .i64 n)] σ (fun v σ' => v = .tup [] ∧ Snk g (bs ++ lowB u n) σ' ∧ Fr g σ σ') := by
  refine ACalls.intro Try.call88 Try.func88 rfl Try.ntmps88 Try.results88 (by simp) ?_
  refine AW.seq_k fun K1 h1 => ?_
  all_goals refine AW.reg0 ?_
  all_goals iterate 2 (refine S.g rfl rfl fun K' k' => ?_; simp only [zz, reduceIte, Nat.reduceEqDiff, Nat.reduceAdd]; refine k' _ _ ?_; clear k' K')
  all_goals refine S.nil ?_
  all_goals simp only [ze, reduceIte, Nat.reduceEqDiff, Nat.reduceLT, Nat.reduceLeDiff, Nat.reduceAdd, reduceCtorEq, Nat.reduceMul]
  all_goals first | refine h1 _ _ ?_
  refine AW.block ?_   -- 0
  refine AW.loop (fun m s σ1 => ∃ i, m = n - i ∧ i ≤ n ∧ s.t 0 = ptrV g ∧ s.t 1 = .c (.int .u64 u) ∧ s.t 2 = .c (.int .i64 n) ∧ s.t 7 = .c (.int .i64 n) ∧ s.t 8 = .c (.int .i64 (i : Nat)) ∧ Snk g (bs ++ (lowB u n).take i) σ1 ∧ Fr g σ σ1) n ?_ ?_
  · refine ⟨0, rfl, Nat.zero_le _, ?_⟩
    all_goals simp only [zs, reduceIte, Nat.reduceEqDiff, Nat.reduceLT, Nat.reduceLeDiff, Nat.reduceAdd, reduceCtorEq, Nat.reduceMul]
    exact ⟨rfl, by simpa using hs, Fr.refl g σ⟩
  rintro m s σ1 ⟨i, hm, hi, e0, e1, e2, e7, e8, hsn, hfr⟩
  refine AW.seq_k fun K2 h2 => ?_
  all_goals refine AW.reg0 ?_
  all_goals (refine S.g rfl rfl fun K' k' => ?_; simp only [zz, reduceIte, Nat.reduceEqDiff, Nat.reduceAdd, e7, e8]; refine k' _ _ ?_; clear k' K')
  all_goals refine S.nil ?_
  all_goals simp only [ze, reduceIte, Nat.reduceEqDiff, Nat.reduceLT, Nat.reduceLeDiff, Nat.reduceAdd, reduceCtorEq, Nat.reduceMul, e7, e8]
  all_goals first | refine h2 _ _ ?_ | refine h1 _ _ ?_
  refine AW.seq_k fun K3 h3 => ?_
  refine AW.cond (b := decide (i < n)) (by simp [ev]) (fun hc => ?_) (fun hc => ?_)
  · refine AW.skip ?_
    all_goals simp only [zs, reduceIte, Nat.reduceEqDiff, Nat.reduceLT, Nat.reduceLeDiff, Nat.reduceAdd, reduceCtorEq, Nat.reduceMul]
    all_goals first | refine h3 _ _ ?_ | refine h2 _ _ ?_ | refine h1 _ _ ?_
    have hin := of_decide_eq_true hc
    generalize hbs : bs ++ (lowB u n).take i = bs2 at hsn
    have hlb : bs2.length = bs.length + i := by rw [← hbs, List.length_append, List.length_take, lowB_len]; omega
    have hw1 : IntKind.i64.wrap ((n : Int) - 1) = ((n - 1 : Nat) : Int) := by rw [wrap_small _ (by omega) (by omega)]; omega
    have hw2 : IntKind.i64.wrap (((n - 1 : Nat) : Int) - i) = ((n - 1 - i : Nat) : Int) := by rw [wrap_small _ (by omega) (by omega)]; omega
    have hsh := shr64 u (n - 1 - i) (by omega)
    have han := and1 (x := u / 2 ^ (n - 1 - i)) (Nat.lt_of_le_of_lt (Nat.div_le_self _ _) hu)
    have he1 := eq1 (u / 2 ^ (n - 1 - i))
    have hwi : IntKind.i64.wrap ((i : Int) + 1) = ((i + 1 : Nat) : Int) := by rw [wrap_small _ (by omega) (by omega)]; rfl
    refine AW.seq_k fun K4 h4 => ?_
    refine AW.block ?_   -- 1
    refine AW.seq_k fun K5 h5 => ?_
    all_goals refine AW.reg0 ?_
    all_goals iterate 2 (refine S.g rfl rfl fun K' k' => ?_; simp only [zz, reduceIte, Nat.reduceEqDiff, Nat.reduceAdd, e8]; refine k' _ _ ?_; clear k' K')
    all_goals refine S.nil ?_
    all_goals simp only [ze, reduceIte, Nat.reduceEqDiff, Nat.reduceLT, Nat.reduceLeDiff, Nat.reduceAdd, reduceCtorEq, Nat.reduceMul, e8]
    all_goals first | refine h5 _ _ ?_ | refine h4 _ _ ?_ | refine h3 _ _ ?_ | refine h2 _ _ ?_ | refine h1 _ _ ?_
    all_goals refine AW.reg0 ?_
    all_goals iterate 9 (refine S.g rfl rfl fun K' k' => ?_; simp only [zz, reduceIte, Nat.reduceEqDiff, Nat.reduceAdd, e0, e1, e2, hw1, hw2, hsh, han, he1, okPt, wkPt]; refine k' _ _ ?_; clear k' K')
    all_goals (refine S.g rfl rfl fun K' k' => ?_; simp only [zz, reduceIte, Nat.reduceEqDiff, Nat.reduceLT, Nat.reduceLeDiff, Nat.reduceAdd, reduceCtorEq, Nat.reduceMul, e0, e1, e2, hw1, hw2, hsh, han, he1, okPt, wkPt]; refine (put_spec g bs2 _ _ hsn (by omega)).to fun v σ1 hv => ?_; obtain ⟨rfl, hs1, hf1⟩ := hv <;> (refine k' _ _ ?_; clear k' K'))
    all_goals refine S.nil ?_
    all_goals simp only [ze, reduceIte, Nat.reduceEqDiff, Nat.reduceLT, Nat.reduceLeDiff, Nat.reduceAdd, reduceCtorEq, Nat.reduceMul, e0, e1, e2, hw1, hw2, hsh, han, he1, okPt, wkPt]
    all_goals first | refine h5 _ _ ?_ | refine h4 _ _ ?_ | refine h3 _ _ ?_ | refine h2 _ _ ?_ | refine h1 _ _ ?_
    all_goals refine AW.reg0 ?_
    all_goals iterate 2 (refine S.g rfl rfl fun K' k' => ?_; simp only [zz, reduceIte, Nat.reduceEqDiff, Nat.reduceAdd, e8, hwi]; refine k' _ _ ?_; clear k' K')
    all_goals refine S.nil ?_
    all_goals simp only [ze, reduceIte, Nat.reduceEqDiff, Nat.reduceLT, Nat.reduceLeDiff, Nat.reduceAdd, reduceCtorEq, Nat.reduceMul, e8, hwi]
    refine ⟨n - (i + 1), by omega, i + 1, rfl, by omega, e0, e1, e2, e7, rfl, ?_, hfr.trans hf1⟩
    rw [lowB_take u n i hin, ← List.append_assoc, hbs]
    exact hs1
  · refine AW.exit ?_
    all_goals simp only [zs, reduceIte, Nat.reduceEqDiff, Nat.reduceLT, Nat.reduceLeDiff, Nat.reduceAdd, reduceCtorEq, Nat.reduceMul]
    have hin := of_decide_eq_false hc
    have : i = n := by omega
    subst this
    rw [List.take_of_length_le (by rw [lowB_len]; omega)] at hsn
    exact ⟨rfl, hsn, hfr⟩
end Go.Abs.M
namespace Go.Abs.M
open Go Go.Abs Go.Proofs
set_option maxRecDepth 20000
set_option linter.unusedSimpArgs false
set_option linter.unusedVariables false

theorem Snk.obj {g : Nat} {bs : List Bool} {σ : Hp} (h : Snk g bs σ) : ∃ v, σ.obj g = some [.c (.bool true), v, .c (.int .i64 (bs.length : Nat))] := by
  rcases h with ⟨rfl, h⟩ | ⟨k, h, _⟩
  · exact ⟨_, h⟩
  · exact ⟨_, h⟩
def roomE (m n : Nat) : Int := if 1048576 < m + n then 3 else 0
theorem room_spec (g : Nat) (bs : List Bool) (n : Nat) (σ : Hp) (hs : Snk g bs σ) (hl : bs.length < 549755813888) (hn : n < 549755813888) :
    ACalls Try.prog 87 [ptrV g, .c (.int .i64 n)] σ (fun v σ' => v = .c (.int .i64 (roomE bs.length n)) ∧ σ' = σ) := by
  obtain ⟨v, ho⟩ := hs.obj
  refine ACalls.intro Try.call87 Try.func87 rfl Try.ntmps87 Try.results87 (by simp) ?_
  have hw1 : IntKind.i64.wrap (1048576 - (bs.length : Int)) = 1048576 - (bs.length : Int) := by unfold IntKind.wrap; simp [IntKind.signed, IntKind.bits]; omega
  refine AW.seq_k fun K1 h1 => ?_
  all_goals refine AW.reg0 ?_
  all_goals (refine S.g rfl rfl fun K' k' => ?_; simp only [zz, reduceIte, Nat.reduceEqDiff, Nat.reduceAdd]; refine k' _ _ ?_; clear k' K')
  all_goals refine S.nil ?_
  all_goals simp only [ze, reduceIte, Nat.reduceEqDiff, Nat.reduceLT, Nat.reduceLeDiff, Nat.reduceAdd, reduceCtorEq, Nat.reduceMul]
  all_goals first | refine h1 _ _ ?_
  refine AW.seq_k fun K2 h2 => ?_
  refine AW.block ?_   -- 0
  refine AW.seq_k fun K3 h3 => ?_
  all_goals refine AW.reg0 ?_
  all_goals (refine S.g rfl rfl fun K' k' => ?_; simp only [zz, reduceIte, Nat.reduceEqDiff, Nat.reduceAdd, ptrV, ho, map3, un4, un51, TypeDesc.pointer.injEq, Bool.not_true, List.getD_cons_succ, List.getD_cons_zero]; refine k' _ _ ?_; clear k' K')
  all_goals (refine S.g rfl rfl fun K' k' => ?_; simp only [zz, reduceIte, Nat.reduceEqDiff, Nat.reduceLT, Nat.reduceLeDiff, Nat.reduceAdd, reduceCtorEq, Nat.reduceMul, un51, ptrV, ho, map3, un4, un51, TypeDesc.pointer.injEq, Bool.not_true, List.getD_cons_succ, List.getD_cons_zero]; refine S.bool fun b a7 => ?_; cases b <;> (try (exfalso; first | exact Bool.noConfusion a7 | (have h := of_decide_eq_true a7; omega) | (have h := of_decide_eq_false a7; omega))) <;> (refine k' _ _ ?_; clear k' K'))
  all_goals (refine S.g rfl rfl fun K' k' => ?_; simp only [zz, reduceIte, Nat.reduceEqDiff, Nat.reduceAdd, ptrV, ho, map3, un4, un51, TypeDesc.pointer.injEq, Bool.not_true, List.getD_cons_succ, List.getD_cons_zero]; refine k' _ _ ?_; clear k' K')
  all_goals iterate 5 (first | (refine S.y rfl rfl rfl rfl fun K' k' => ?_; simp only [zz, reduceIte, Nat.reduceEqDiff, Nat.reduceLT, Nat.reduceLeDiff, Nat.reduceAdd, reduceCtorEq, Nat.reduceMul, of114_0, ok4, sz4, ag4, ptrV, ho, map3, un4, un51, TypeDesc.pointer.injEq, Bool.not_true, List.getD_cons_succ, List.getD_cons_zero]; refine k' _ _ ?_; clear k' K') | ((first | refine S.x rfl rfl rfl rfl fun K' k' => ?_ | refine S.u rfl rfl rfl rfl fun K' k' => ?_); simp only [ze, reduceIte, Nat.reduceEqDiff]; refine k' _ _ ?_; clear k' K'))
  all_goals iterate 2 (refine S.g rfl rfl fun K' k' => ?_; simp only [zz, reduceIte, Nat.reduceEqDiff, Nat.reduceAdd, ptrV, ho, map3, un4, un51, TypeDesc.pointer.injEq, Bool.not_true, List.getD_cons_succ, List.getD_cons_zero]; refine k' _ _ ?_; clear k' K')
  all_goals refine S.nil ?_
  all_goals simp only [ze, reduceIte, Nat.reduceEqDiff, Nat.reduceLT, Nat.reduceLeDiff, Nat.reduceAdd, reduceCtorEq, Nat.reduceMul, ptrV, ho, map3, un4, un51, TypeDesc.pointer.injEq, Bool.not_true, List.getD_cons_succ, List.getD_cons_zero]
  all_goals first | refine h3 _ _ ?_ | refine h2 _ _ ?_ | refine h1 _ _ ?_
  refine AW.cond (b := false) (by simp [ev]) (fun hc => by cases hc) (fun hc => ?_)
  refine AW.seq_k fun K4 h4 => ?_
  all_goals refine AW.reg0 ?_
  all_goals iterate 8 (refine S.g rfl rfl fun K' k' => ?_; simp only [zz, reduceIte, Nat.reduceEqDiff, Nat.reduceLT, Nat.reduceLeDiff, Nat.reduceAdd, reduceCtorEq, Nat.reduceMul, of114_2, ok3, sz3, ag3, ptrV, ho, map3, hw1, List.getD_cons_succ, List.getD_cons_zero]; refine k' _ _ ?_; clear k' K')
  all_goals refine S.nil ?_
  all_goals simp only [ze, reduceIte, Nat.reduceEqDiff, Nat.reduceLT, Nat.reduceLeDiff, Nat.reduceAdd, reduceCtorEq, Nat.reduceMul, ptrV, ho, map3, hw1, List.getD_cons_succ, List.getD_cons_zero]
  all_goals first | refine h4 _ _ ?_ | refine h3 _ _ ?_ | refine h2 _ _ ?_ | refine h1 _ _ ?_
  refine AW.cond (b := decide (1048576 - (bs.length : Int) < n)) (by simp [ev]) (fun hc => ?_) (fun hc => ?_)
  · refine AW.seq_k fun K5 h5 => ?_
    all_goals refine AW.reg0 ?_
    all_goals (refine S.g rfl rfl fun K' k' => ?_; simp only [zz, reduceIte, Nat.reduceEqDiff, Nat.reduceAdd]; refine k' _ _ ?_; clear k' K')
    all_goals refine S.nil ?_
    all_goals simp only [ze, reduceIte, Nat.reduceEqDiff, Nat.reduceLT, Nat.reduceLeDiff, Nat.reduceAdd, reduceCtorEq, Nat.reduceMul]
    all_goals first | refine h5 _ _ ?_ | refine h4 _ _ ?_ | refine h3 _ _ ?_ | refine h2 _ _ ?_ | refine h1 _ _ ?_
    refine AW.ret ?_
    all_goals simp only [zs, reduceIte, Nat.reduceEqDiff, Nat.reduceLT, Nat.reduceLeDiff, Nat.reduceAdd, reduceCtorEq, Nat.reduceMul]
    have hc := of_decide_eq_true hc
    rw [roomE, if_pos (by omega)]
  · refine AW.skip ?_
    all_goals simp only [zs, reduceIte, Nat.reduceEqDiff, Nat.reduceLT, Nat.reduceLeDiff, Nat.reduceAdd, reduceCtorEq, Nat.reduceMul]
    all_goals first | refine h5 _ _ ?_ | refine h4 _ _ ?_ | refine h3 _ _ ?_ | refine h2 _ _ ?_ | refine h1 _ _ ?_
    refine AW.seq_k fun K6 h6 => ?_
    all_goals refine AW.reg0 ?_
    all_goals (refine S.g rfl rfl fun K' k' => ?_; simp only [zz, reduceIte, Nat.reduceEqDiff, Nat.reduceAdd]; refine k' _ _ ?_; clear k' K')
    all_goals refine S.nil ?_
    all_goals simp only [ze, reduceIte, Nat.reduceEqDiff, Nat.reduceLT, Nat.reduceLeDiff, Nat.reduceAdd, reduceCtorEq, Nat.reduceMul]
    all_goals first | refine h6 _ _ ?_ | refine h5 _ _ ?_ | refine h4 _ _ ?_ | refine h3 _ _ ?_ | refine h2 _ _ ?_ | refine h1 _ _ ?_
    refine AW.ret ?_
    all_goals simp only [zs, reduceIte, Nat.reduceEqDiff, Nat.reduceLT, Nat.reduceLeDiff, Nat.reduceAdd, reduceCtorEq, Nat.reduceMul]
    have hc := of_decide_eq_false hc
    rw [roomE, if_neg (by omega)]

/-! Len64: the table. -/
def tabOk (l : List UInt8) : Bool := (List.range 256).all fun x => decide (x < l.length) && (l.getD x 0).toNat == blen x
theorem tabT1 {x : Nat} (hx : x < 256) (l : List UInt8) (hl : tabOk l = true) : (x : Int) < ((ByteArray.mk l.toArray).size : Int) := by
  have := List.all_eq_true.1 hl x (List.mem_range.2 hx)
  simp only [Bool.and_eq_true, decide_eq_true_eq] at this
  exact Int.ofNat_lt.2 (show x < (ByteArray.mk l.toArray).size by simpa [ByteArray.size] using this.1)
theorem tabT2 {x : Nat} (hx : x < 256) (l : List UInt8) (hl : tabOk l = true) : (l.toArray.getD x 0).toNat = blen x := by
  have := List.all_eq_true.1 hl x (List.mem_range.2 hx)
  simp only [Bool.and_eq_true, beq_iff_eq] at this
  simpa [List.getD] using this.2
theorem fdivk (u k : Nat) (h : k < 64) : Int.fdiv (u : Int) ((2 : Int) ^ min k IntKind.u64.bits) = ((u / 2 ^ k : Nat) : Int) := shr64 u k (by omega)
theorem len64_spec (u : Nat) (hu : u < 18446744073709551616) : PCalls Try.prog 148 [.c (.int .u64 u)] (fun v => v = .c (.int .i64 (blen u))) := by
  refine PCalls.intro Try.call148 Try.func148 rfl Try.ntmps148 Try.results148 (by simp) ?_
  have h32 : Int.fdiv (u : Int) ((2 : Int) ^ min 32 IntKind.u64.bits) = ((u / 4294967296 : Nat) : Int) := shr64 u 32 (by omega)
  refine AW.seq_k fun K1 h1 => ?_
  all_goals refine AW.reg0 ?_
  all_goals (refine S.g rfl rfl fun K' k' => ?_; simp only [zz, reduceIte, Nat.reduceEqDiff, Nat.reduceAdd]; refine k' _ _ ?_; clear k' K')
  all_goals refine S.nil ?_
  all_goals simp only [ze, reduceIte, Nat.reduceEqDiff, Nat.reduceLT, Nat.reduceLeDiff, Nat.reduceAdd, reduceCtorEq, Nat.reduceMul]
  all_goals first | refine h1 _ _ ?_
  refine AW.seq_j (fun s σ => σ = Hp.empty ∧ ∃ x n : Nat, s.t 0 = .c (.int .u64 x) ∧ s.t 2 = .c (.int .i64 n) ∧ x < 4294967296 ∧ n ≤ 32 ∧ blen u = n + blen x) ?_ ?_
  · refine AW.seq_k fun K2 h2 => ?_
    all_goals refine AW.reg0 ?_
    all_goals iterate 2 (refine S.g rfl rfl fun K' k' => ?_; simp only [zz, reduceIte, Nat.reduceEqDiff, Nat.reduceAdd]; refine k' _ _ ?_; clear k' K')
    all_goals refine S.nil ?_
    all_goals simp only [ze, reduceIte, Nat.reduceEqDiff, Nat.reduceLT, Nat.reduceLeDiff, Nat.reduceAdd, reduceCtorEq, Nat.reduceMul]
    all_goals first | refine h2 _ _ ?_ | refine h1 _ _ ?_
    refine AW.cond (b := decide ((4294967296 : Int) ≤ u)) (by simp [ev]) (fun hc => ?_) (fun hc => ?_)
    · have hc := of_decide_eq_true hc
      refine AW.seq_k fun K3 h3 => ?_
      all_goals refine AW.reg0 ?_
      all_goals iterate 3 (refine S.g rfl rfl fun K' k' => ?_; simp only [zz, reduceIte, Nat.reduceEqDiff, Nat.reduceAdd, Int.reduceLE, Int.reduceToNat, h32]; refine k' _ _ ?_; clear k' K')
      all_goals refine S.nil ?_
      all_goals simp only [ze, reduceIte, Nat.reduceEqDiff, Nat.reduceLT, Nat.reduceLeDiff, Nat.reduceAdd, reduceCtorEq, Nat.reduceMul, Int.reduceLE, Int.reduceToNat, h32]
      all_goals first | refine h3 _ _ ?_ | refine h2 _ _ ?_ | refine h1 _ _ ?_
      all_goals refine AW.reg0 ?_
      all_goals (refine S.g rfl rfl fun K' k' => ?_; simp only [zz, reduceIte, Nat.reduceEqDiff, Nat.reduceAdd]; refine k' _ _ ?_; clear k' K')
      all_goals refine S.nil ?_
      all_goals simp only [ze, reduceIte, Nat.reduceEqDiff, Nat.reduceLT, Nat.reduceLeDiff, Nat.reduceAdd, reduceCtorEq, Nat.reduceMul]
      refine ⟨u / 4294967296, 32, rfl, rfl, by omega, by omega, ?_⟩
      exact blen_div u 32 (by omega)
    · have hc := of_decide_eq_false hc
      refine AW.skip ?_
      all_goals simp only [zs, reduceIte, Nat.reduceEqDiff, Nat.reduceLT, Nat.reduceLeDiff, Nat.reduceAdd, reduceCtorEq, Nat.reduceMul]
      exact ⟨u, 0, rfl, rfl, by omega, by omega, by omega⟩
  rintro s σ ⟨rfl, x, n, e0, e2, hx, hn, hb⟩
  refine AW.seq_j (fun s σ => σ = Hp.empty ∧ ∃ x n : Nat, s.t 0 = .c (.int .u64 x) ∧ s.t 2 = .c (.int .i64 n) ∧ x < 65536 ∧ n ≤ 48 ∧ blen u = n + blen x) ?_ ?_
  · have h16 : Int.fdiv (x : Int) ((2 : Int) ^ min 16 IntKind.u64.bits) = ((x / 65536 : Nat) : Int) := shr64 x 16 (by omega)
    have hw : IntKind.i64.wrap ((n : Int) + 16) = ((n + 16 : Nat) : Int) := by rw [wrap_small _ (by omega) (by omega)]; rfl
    refine AW.seq_k fun K4 h4 => ?_
    all_goals refine AW.reg0 ?_
    all_goals iterate 2 (refine S.g rfl rfl fun K' k' => ?_; simp only [zz, reduceIte, Nat.reduceEqDiff, Nat.reduceAdd, e0]; refine k' _ _ ?_; clear k' K')
    all_goals refine S.nil ?_
    all_goals simp only [ze, reduceIte, Nat.reduceEqDiff, Nat.reduceLT, Nat.reduceLeDiff, Nat.reduceAdd, reduceCtorEq, Nat.reduceMul, e0]
    all_goals first | refine h4 _ _ ?_ | refine h3 _ _ ?_ | refine h2 _ _ ?_ | refine h1 _ _ ?_
    refine AW.cond (b := decide ((65536 : Int) ≤ x)) (by simp [ev]) (fun hc => ?_) (fun hc => ?_)
    · have hc := of_decide_eq_true hc
      refine AW.seq_k fun K5 h5 => ?_
      all_goals refine AW.reg0 ?_
      all_goals iterate 3 (refine S.g rfl rfl fun K' k' => ?_; simp only [zz, reduceIte, Nat.reduceEqDiff, Nat.reduceAdd, e0, Int.reduceLE, Int.reduceToNat, h16]; refine k' _ _ ?_; clear k' K')
      all_goals refine S.nil ?_
      all_goals simp only [ze, reduceIte, Nat.reduceEqDiff, Nat.reduceLT, Nat.reduceLeDiff, Nat.reduceAdd, reduceCtorEq, Nat.reduceMul, e0, Int.reduceLE, Int.reduceToNat, h16]
      all_goals first | refine h5 _ _ ?_ | refine h4 _ _ ?_ | refine h3 _ _ ?_ | refine h2 _ _ ?_ | refine h1 _ _ ?_
      all_goals refine AW.reg0 ?_
      all_goals iterate 3 (refine S.g rfl rfl fun K' k' => ?_; simp only [zz, reduceIte, Nat.reduceEqDiff, Nat.reduceAdd, e2, hw]; refine k' _ _ ?_; clear k' K')
      all_goals refine S.nil ?_
      all_goals simp only [ze, reduceIte, Nat.reduceEqDiff, Nat.reduceLT, Nat.reduceLeDiff, Nat.reduceAdd, reduceCtorEq, Nat.reduceMul, e2, hw]
      refine ⟨x / 65536, n + 16, rfl, rfl, by omega, by omega, ?_⟩
      have hd := blen_div x 16 (by omega)
      rw [show (2 : Nat) ^ 16 = 65536 from rfl] at hd
      omega
    · have hc := of_decide_eq_false hc
      refine AW.skip ?_
      all_goals simp only [zs, reduceIte, Nat.reduceEqDiff, Nat.reduceLT, Nat.reduceLeDiff, Nat.reduceAdd, reduceCtorEq, Nat.reduceMul]
      exact ⟨x, n, e0, e2, by omega, by omega, hb⟩
  clear hb hx hn e0 e2
  rintro s σ ⟨rfl, x, n, e0, e2, hx, hn, hb⟩
  refine AW.seq_j (fun s σ => σ = Hp.empty ∧ ∃ x n : Nat, s.t 0 = .c (.int .u64 x) ∧ s.t 2 = .c (.int .i64 n) ∧ x < 256 ∧ n ≤ 56 ∧ blen u = n + blen x) ?_ ?_
  · have h8 : Int.fdiv (x : Int) ((2 : Int) ^ min 8 IntKind.u64.bits) = ((x / 256 : Nat) : Int) := shr64 x 8 (by omega)
    have hw : IntKind.i64.wrap ((n : Int) + 8) = ((n + 8 : Nat) : Int) := by rw [wrap_small _ (by omega) (by omega)]; rfl
    refine AW.seq_k fun K6 h6 => ?_
    all_goals refine AW.reg0 ?_
    all_goals iterate 2 (refine S.g rfl rfl fun K' k' => ?_; simp only [zz, reduceIte, Nat.reduceEqDiff, Nat.reduceAdd, e0]; refine k' _ _ ?_; clear k' K')
    all_goals refine S.nil ?_
    all_goals simp only [ze, reduceIte, Nat.reduceEqDiff, Nat.reduceLT, Nat.reduceLeDiff, Nat.reduceAdd, reduceCtorEq, Nat.reduceMul, e0]
    all_goals first | refine h6 _ _ ?_ | refine h5 _ _ ?_ | refine h4 _ _ ?_ | refine h3 _ _ ?_ | refine h2 _ _ ?_ | refine h1 _ _ ?_
    refine AW.cond (b := decide ((256 : Int) ≤ x)) (by simp [ev]) (fun hc => ?_) (fun hc => ?_)
    · have hc := of_decide_eq_true hc
      refine AW.seq_k fun K7 h7 => ?_
      all_goals refine AW.reg0 ?_
      all_goals iterate 3 (refine S.g rfl rfl fun K' k' => ?_; simp only [zz, reduceIte, Nat.reduceEqDiff, Nat.reduceAdd, e0, Int.reduceLE, Int.reduceToNat, h8]; refine k' _ _ ?_; clear k' K')
      all_goals refine S.nil ?_
      all_goals simp only [ze, reduceIte, Nat.reduceEqDiff, Nat.reduceLT, Nat.reduceLeDiff, Nat.reduceAdd, reduceCtorEq, Nat.reduceMul, e0, Int.reduceLE, Int.reduceToNat, h8]
      all_goals first | refine h7 _ _ ?_ | refine h6 _ _ ?_ | refine h5 _ _ ?_ | refine h4 _ _ ?_ | refine h3 _ _ ?_ | refine h2 _ _ ?_ | refine h1 _ _ ?_
      all_goals refine AW.reg0 ?_
      all_goals iterate 3 (refine S.g rfl rfl fun K' k' => ?_; simp only [zz, reduceIte, Nat.reduceEqDiff, Nat.reduceAdd, e2, hw]; refine k' _ _ ?_; clear k' K')
      all_goals refine S.nil ?_
      all_goals simp only [ze, reduceIte, Nat.reduceEqDiff, Nat.reduceLT, Nat.reduceLeDiff, Nat.reduceAdd, reduceCtorEq, Nat.reduceMul, e2, hw]
      refine ⟨x / 256, n + 8, rfl, rfl, by omega, by omega, ?_⟩
      have hd := blen_div x 8 (by omega)
      rw [show (2 : Nat) ^ 8 = 256 from rfl] at hd
      omega
    · have hc := of_decide_eq_false hc
      refine AW.skip ?_
      all_goals simp only [zs, reduceIte, Nat.reduceEqDiff, Nat.reduceLT, Nat.reduceLeDiff, Nat.reduceAdd, reduceCtorEq, Nat.reduceMul]
      exact ⟨x, n, e0, e2, by omega, by omega, hb⟩
  clear hb hx hn e0 e2
  rintro s σ ⟨rfl, x, n, e0, e2, hx, hn, hb⟩
  have hwx := wrap_u8 hx
  have hbl : blen x ≤ 8 := blen_lt.2 (by omega)
  have hwb : IntKind.i64.wrap (blen x : Int) = blen x := wrap_small _ (by omega) (by omega)
  have hwn : IntKind.i64.wrap ((n : Int) + blen x) = ((n + blen x : Nat) : Int) := by rw [wrap_small _ (by omega) (by omega)]; rfl
  refine AW.seq_k fun K8 h8 => ?_
  all_goals refine AW.reg0 ?_
  all_goals iterate 3 (refine S.g rfl rfl fun K' k' => ?_; simp only [zz, reduceIte, Nat.reduceEqDiff, Nat.reduceAdd, cv54_5, e0, e2, hwx, hwb, hwn]; refine k' _ _ ?_; clear k' K')
  all_goals (refine S.g rfl rfl fun K' k' => ?_; simp only [zz, reduceIte, Nat.reduceEqDiff, Nat.reduceLT, Nat.reduceLeDiff, Nat.reduceAdd, reduceCtorEq, Nat.reduceMul, st9, e0, e2, hwx, hwb, hwn]; (first | (refine ⟨Int.ofNat_lt.1 (tabT1 hx _ (by decide +kernel)), ?_⟩; rw [tabT2 hx]; rotate_left; decide +kernel) | (refine ⟨tabT1 hx _ (by decide +kernel), ?_⟩; rw [tabT2 hx]; rotate_left; decide +kernel)) <;> (refine k' _ _ ?_; clear k' K'))
  all_goals iterate 3 (refine S.g rfl rfl fun K' k' => ?_; simp only [zz, reduceIte, Nat.reduceEqDiff, Nat.reduceAdd, cv5_3, e0, e2, hwx, hwb, hwn]; refine k' _ _ ?_; clear k' K')
  all_goals refine S.nil ?_
  all_goals simp only [ze, reduceIte, Nat.reduceEqDiff, Nat.reduceLT, Nat.reduceLeDiff, Nat.reduceAdd, reduceCtorEq, Nat.reduceMul, e0, e2, hwx, hwb, hwn]
  all_goals first | refine h8 _ _ ?_ | refine h7 _ _ ?_ | refine h6 _ _ ?_ | refine h5 _ _ ?_ | refine h4 _ _ ?_ | refine h3 _ _ ?_ | refine h2 _ _ ?_ | refine h1 _ _ ?_
  refine AW.ret ?_
  all_goals simp only [zs, reduceIte, Nat.reduceEqDiff, Nat.reduceLT, Nat.reduceLeDiff, Nat.reduceAdd, reduceCtorEq, Nat.reduceMul]
  rw [hb]
end Go.Abs.M
namespace Go.Abs.M
open Go Go.Abs Go.Proofs
set_option maxRecDepth 20000
set_option linter.unusedSimpArgs false
set_option linter.unusedVariables false

theorem size_spec (u : Nat) (hu : u < 18446744073709551616) : PCalls Try.prog 135 [.c (.int .u64 u)] (fun v => v = .c (.int .i64 (sizeB u))) := by
  refine PCalls.intro Try.call135 Try.func135 rfl Try.ntmps135 Try.results135 (by simp) ?_
  have hq : ((u : Int) == 18446744073709551615) = decide (u = 18446744073709551615) := by rw [Bool.eq_iff_iff]; simp; omega
  refine AW.seq_k fun K1 h1 => ?_
  all_goals refine AW.reg0 ?_
  all_goals (refine S.g rfl rfl fun K' k' => ?_; simp only [zz, reduceIte, Nat.reduceEqDiff, Nat.reduceAdd]; refine k' _ _ ?_; clear k' K')
  all_goals refine S.nil ?_
  all_goals simp only [ze, reduceIte, Nat.reduceEqDiff, Nat.reduceLT, Nat.reduceLeDiff, Nat.reduceAdd, reduceCtorEq, Nat.reduceMul]
  all_goals first | refine h1 _ _ ?_
  refine AW.seq_k fun K2 h2 => ?_
  refine AW.seq_k fun K3 h3 => ?_
  all_goals refine AW.reg0 ?_
  all_goals iterate 2 (refine S.g rfl rfl fun K' k' => ?_; simp only [zz, reduceIte, Nat.reduceEqDiff, Nat.reduceAdd, hq]; refine k' _ _ ?_; clear k' K')
  all_goals refine S.nil ?_
  all_goals simp only [ze, reduceIte, Nat.reduceEqDiff, Nat.reduceLT, Nat.reduceLeDiff, Nat.reduceAdd, reduceCtorEq, Nat.reduceMul, hq]
  all_goals first | refine h3 _ _ ?_ | refine h2 _ _ ?_ | refine h1 _ _ ?_
  refine AW.cond (b := decide (u = 18446744073709551615)) (by simp [ev]) (fun hc => ?_) (fun hc => ?_)
  · refine AW.seq_k fun K4 h4 => ?_
    all_goals refine AW.reg0 ?_
    all_goals (refine S.g rfl rfl fun K' k' => ?_; simp only [zz, reduceIte, Nat.reduceEqDiff, Nat.reduceAdd]; refine k' _ _ ?_; clear k' K')
    all_goals refine S.nil ?_
    all_goals simp only [ze, reduceIte, Nat.reduceEqDiff, Nat.reduceLT, Nat.reduceLeDiff, Nat.reduceAdd, reduceCtorEq, Nat.reduceMul]
    all_goals first | refine h4 _ _ ?_ | refine h3 _ _ ?_ | refine h2 _ _ ?_ | refine h1 _ _ ?_
    refine AW.ret ?_
    all_goals simp only [zs, reduceIte, Nat.reduceEqDiff, Nat.reduceLT, Nat.reduceLeDiff, Nat.reduceAdd, reduceCtorEq, Nat.reduceMul]
    rw [sizeB, if_pos (of_decide_eq_true hc)]; rfl
  · have hc := of_decide_eq_false hc
    refine AW.skip ?_
    all_goals simp only [zs, reduceIte, Nat.reduceEqDiff, Nat.reduceLT, Nat.reduceLeDiff, Nat.reduceAdd, reduceCtorEq, Nat.reduceMul]
    all_goals first | refine h4 _ _ ?_ | refine h3 _ _ ?_ | refine h2 _ _ ?_ | refine h1 _ _ ?_
    have hu1 : u + 1 < 18446744073709551616 := by omega
    have hw1 : IntKind.u64.wrap ((u : Int) + 1) = ((u + 1 : Nat) : Int) := by rw [show (u : Int) + 1 = ((u + 1 : Nat) : Int) by simp, wrap_u64 hu1]
    have hb := blen_le64 hu1
    have hb2 := blen_pos u
    have hw2 : IntKind.i64.wrap (2 * (blen (u + 1) : Int)) = ((2 * blen (u + 1) : Nat) : Int) := by rw [wrap_small _ (by omega) (by omega)]; simp
    have hw3 : IntKind.i64.wrap (((2 * blen (u + 1) : Nat) : Int) - 1) = ((2 * blen (u + 1) - 1 : Nat) : Int) := by rw [wrap_small _ (by omega) (by omega)]; omega
    refine AW.seq_k fun K5 h5 => ?_
    all_goals refine AW.reg0 ?_
    all_goals iterate 2 (refine S.g rfl rfl fun K' k' => ?_; simp only [zz, reduceIte, Nat.reduceEqDiff, Nat.reduceAdd, hw1, hw2, hw3]; refine k' _ _ ?_; clear k' K')
    all_goals (refine S.g rfl rfl fun K' k' => ?_; simp only [zz, reduceIte, Nat.reduceEqDiff, Nat.reduceLT, Nat.reduceLeDiff, Nat.reduceAdd, reduceCtorEq, Nat.reduceMul, hw1, hw2, hw3]; refine PCalls.eqto (len64_spec _ hu1) ?_ <;> (refine k' _ _ ?_; clear k' K'))
    all_goals iterate 3 (refine S.g rfl rfl fun K' k' => ?_; simp only [zz, reduceIte, Nat.reduceEqDiff, Nat.reduceAdd, hw1, hw2, hw3]; refine k' _ _ ?_; clear k' K')
    all_goals refine S.nil ?_
    all_goals simp only [ze, reduceIte, Nat.reduceEqDiff, Nat.reduceLT, Nat.reduceLeDiff, Nat.reduceAdd, reduceCtorEq, Nat.reduceMul, hw1, hw2, hw3]
    all_goals first | refine h5 _ _ ?_ | refine h4 _ _ ?_ | refine h3 _ _ ?_ | refine h2 _ _ ?_ | refine h1 _ _ ?_
    refine AW.ret ?_
    all_goals simp only [zs, reduceIte, Nat.reduceEqDiff, Nat.reduceLT, Nat.reduceLeDiff, Nat.reduceAdd, reduceCtorEq, Nat.reduceMul]
    rw [sizeB, if_neg hc]
theorem lowB_zero : ∀ n, lowB 0 n = List.replicate n false
  | 0 => rfl
  | n + 1 => by rw [lowB, lowB_zero n, Nat.zero_div]; rfl
theorem sizeB_half (u : Nat) (h : u ≠ 18446744073709551615) : sizeB u / 2 = blen (u + 1) - 1 := by
  rw [sizeB, if_neg h]; have := blen_pos u; omega
theorem nat_spec (g : Nat) (bs : List Bool) (u : Nat) (σ : Hp) (hs : Snk g bs σ) (hl : bs.length < 274877906944) (hu : u < 18446744073709551616) :
    ACalls Try.prog 136 [ptrV g, .c (.int .u64 u)] σ (fun v σ' => v = .tup [] ∧ Snk g (bs ++ natB u) σ' ∧ Fr g σ σ') := by
  refine ACalls.intro Try.call136 Try.func136 rfl Try.ntmps136 Try.results136 (by simp) ?_
  have hsz := sizeB_le hu
  have hwq : IntKind.i64.wrap ((sizeB u : Int).tdiv 2) = ((sizeB u / 2 : Nat) : Int) := by
    rw [show (sizeB u : Int).tdiv 2 = ((sizeB u / 2 : Nat) : Int) from rfl, wrap_small _ (by omega) (by omega)]
  by_cases hm : u = 18446744073709551615
  · have h64 : sizeB u / 2 = 64 := by rw [sizeB, if_pos hm]
    rw [h64] at hwq
    refine AW.seq_k fun K1 h1 => ?_
    all_goals refine AW.reg0 ?_
    all_goals (refine S.g rfl rfl fun K' k' => ?_; simp only [zz, reduceIte, Nat.reduceEqDiff, Nat.reduceAdd, hwq, Int.reduceEq]; refine k' _ _ ?_; clear k' K')
    all_goals (refine S.g rfl rfl fun K' k' => ?_; simp only [zz, reduceIte, Nat.reduceEqDiff, Nat.reduceLT, Nat.reduceLeDiff, Nat.reduceAdd, reduceCtorEq, Nat.reduceMul, hwq, Int.reduceEq]; refine PCalls.eqto (size_spec _ hu) ?_ <;> (refine k' _ _ ?_; clear k' K'))
    all_goals iterate 2 (refine S.g rfl rfl fun K' k' => ?_; simp only [zz, reduceIte, Nat.reduceEqDiff, Nat.reduceAdd, hwq, Int.reduceEq]; refine k' _ _ ?_; clear k' K')
    all_goals refine S.nil ?_
    all_goals simp only [ze, reduceIte, Nat.reduceEqDiff, Nat.reduceLT, Nat.reduceLeDiff, Nat.reduceAdd, reduceCtorEq, Nat.reduceMul, hwq, Int.reduceEq]
    all_goals first | refine h1 _ _ ?_
    refine AW.seq_k fun K2 h2 => ?_
    all_goals refine AW.reg0 ?_
    all_goals iterate 2 (refine S.g rfl rfl fun K' k' => ?_; simp only [zz, reduceIte, Nat.reduceEqDiff, Nat.reduceAdd, okPt, wkPt]; refine k' _ _ ?_; clear k' K')
    all_goals (refine S.g rfl rfl fun K' k' => ?_; simp only [zz, reduceIte, Nat.reduceEqDiff, Nat.reduceLT, Nat.reduceLeDiff, Nat.reduceAdd, reduceCtorEq, Nat.reduceMul, okPt, wkPt]; refine (all_spec g bs 0 _ σ hs (by omega) (by omega) (by omega)).to fun v σ1 hv => ?_; obtain ⟨rfl, hs1, hf1⟩ := hv <;> (refine k' _ _ ?_; clear k' K'))
    all_goals refine S.nil ?_
    all_goals simp only [ze, reduceIte, Nat.reduceEqDiff, Nat.reduceLT, Nat.reduceLeDiff, Nat.reduceAdd, reduceCtorEq, Nat.reduceMul, okPt, wkPt]
    all_goals first | refine h2 _ _ ?_ | refine h1 _ _ ?_
    refine AW.seq_k fun K3 h3 => ?_
    refine AW.seq_k fun K4 h4 => ?_
    all_goals refine AW.reg0 ?_
    all_goals iterate 2 (refine S.g rfl rfl fun K' k' => ?_; simp only [zz, reduceIte, Nat.reduceEqDiff, Nat.reduceAdd]; refine k' _ _ ?_; clear k' K')
    all_goals refine S.nil ?_
    all_goals simp only [ze, reduceIte, Nat.reduceEqDiff, Nat.reduceLT, Nat.reduceLeDiff, Nat.reduceAdd, reduceCtorEq, Nat.reduceMul]
    all_goals first | refine h4 _ _ ?_ | refine h3 _ _ ?_ | refine h2 _ _ ?_ | refine h1 _ _ ?_
    refine AW.cond (b := true) (by simp [ev]) (fun hc => ?_) (fun hc => by cases hc)
    refine AW.seq_k fun K5 h5 => ?_
    all_goals refine AW.reg0 ?_
    all_goals (refine S.g rfl rfl fun K' k' => ?_; simp only [zz, reduceIte, Nat.reduceEqDiff, Nat.reduceAdd, okPt, wkPt]; refine k' _ _ ?_; clear k' K')
    all_goals (refine S.g rfl rfl fun K' k' => ?_; simp only [zz, reduceIte, Nat.reduceEqDiff, Nat.reduceLT, Nat.reduceLeDiff, Nat.reduceAdd, reduceCtorEq, Nat.reduceMul, okPt, wkPt]; refine (put_spec g _ true σ1 hs1 (by simp only [List.length_append, lowB_len]; omega)).to fun v σ2 hv => ?_; obtain ⟨rfl, hs2, hf2⟩ := hv <;> (refine k' _ _ ?_; clear k' K'))
    all_goals refine S.nil ?_
    all_goals simp only [ze, reduceIte, Nat.reduceEqDiff, Nat.reduceLT, Nat.reduceLeDiff, Nat.reduceAdd, reduceCtorEq, Nat.reduceMul, okPt, wkPt]
    all_goals first | refine h5 _ _ ?_ | refine h4 _ _ ?_ | refine h3 _ _ ?_ | refine h2 _ _ ?_ | refine h1 _ _ ?_
    refine AW.seq_k fun K6 h6 => ?_
    all_goals refine AW.reg0 ?_
    all_goals (refine S.g rfl rfl fun K' k' => ?_; simp only [zz, reduceIte, Nat.reduceEqDiff, Nat.reduceAdd, okPt, wkPt]; refine k' _ _ ?_; clear k' K')
    all_goals (refine S.g rfl rfl fun K' k' => ?_; simp only [zz, reduceIte, Nat.reduceEqDiff, Nat.reduceLT, Nat.reduceLeDiff, Nat.reduceAdd, reduceCtorEq, Nat.reduceMul, okPt, wkPt]; refine (all_spec g _ 0 64 σ2 hs2 (by simp only [List.length_append, lowB_len, List.length_singleton]; omega) (by omega) (by omega)).to fun v σ3 hv => ?_; obtain ⟨rfl, hs3, hf3⟩ := hv <;> (refine k' _ _ ?_; clear k' K'))
    all_goals refine S.nil ?_
    all_goals simp only [ze, reduceIte, Nat.reduceEqDiff, Nat.reduceLT, Nat.reduceLeDiff, Nat.reduceAdd, reduceCtorEq, Nat.reduceMul, okPt, wkPt]
    all_goals first | refine h6 _ _ ?_ | refine h5 _ _ ?_ | refine h4 _ _ ?_ | refine h3 _ _ ?_ | refine h2 _ _ ?_ | refine h1 _ _ ?_
    refine AW.ret ?_
    all_goals simp only [zs, reduceIte, Nat.reduceEqDiff, Nat.reduceLT, Nat.reduceLeDiff, Nat.reduceAdd, reduceCtorEq, Nat.reduceMul]
    refine ⟨rfl, ?_, (hf1.trans hf2).trans hf3⟩
    rw [natB, if_pos hm]
    simpa [lowB_zero] using hs3
  · have h63 := sizeB_half u hm
    have hu1 : u + 1 < 18446744073709551616 := by omega
    have hb := blen_le64 hu1
    have hb2 := blen_pos u
    rw [h63] at hwq
    have hw1 : IntKind.u64.wrap ((u : Int) + 1) = ((u + 1 : Nat) : Int) := by rw [show (u : Int) + 1 = ((u + 1 : Nat) : Int) by simp, wrap_u64 hu1]
    have hw2 : IntKind.i64.wrap (((blen (u + 1) - 1 : Nat) : Int) + 1) = (blen (u + 1) : Int) := by rw [wrap_small _ (by omega) (by omega)]; omega
    have hne : (((blen (u + 1) - 1 : Nat) : Int) == 64) = false := by simp; omega
    refine AW.seq_k fun K7 h7 => ?_
    all_goals refine AW.reg0 ?_
    all_goals (refine S.g rfl rfl fun K' k' => ?_; simp only [zz, reduceIte, Nat.reduceEqDiff, Nat.reduceAdd, hwq, Int.reduceEq]; refine k' _ _ ?_; clear k' K')
    all_goals (refine S.g rfl rfl fun K' k' => ?_; simp only [zz, reduceIte, Nat.reduceEqDiff, Nat.reduceLT, Nat.reduceLeDiff, Nat.reduceAdd, reduceCtorEq, Nat.reduceMul, hwq, Int.reduceEq]; refine PCalls.eqto (size_spec _ hu) ?_ <;> (refine k' _ _ ?_; clear k' K'))
    all_goals iterate 2 (refine S.g rfl rfl fun K' k' => ?_; simp only [zz, reduceIte, Nat.reduceEqDiff, Nat.reduceAdd, hwq, Int.reduceEq]; refine k' _ _ ?_; clear k' K')
    all_goals refine S.nil ?_
    all_goals simp only [ze, reduceIte, Nat.reduceEqDiff, Nat.reduceLT, Nat.reduceLeDiff, Nat.reduceAdd, reduceCtorEq, Nat.reduceMul, hwq, Int.reduceEq]
    all_goals first | refine h7 _ _ ?_ | refine h6 _ _ ?_ | refine h5 _ _ ?_ | refine h4 _ _ ?_ | refine h3 _ _ ?_ | refine h2 _ _ ?_ | refine h1 _ _ ?_
    refine AW.seq_k fun K8 h8 => ?_
    all_goals refine AW.reg0 ?_
    all_goals iterate 2 (refine S.g rfl rfl fun K' k' => ?_; simp only [zz, reduceIte, Nat.reduceEqDiff, Nat.reduceAdd, okPt, wkPt]; refine k' _ _ ?_; clear k' K')
    all_goals (refine S.g rfl rfl fun K' k' => ?_; simp only [zz, reduceIte, Nat.reduceEqDiff, Nat.reduceLT, Nat.reduceLeDiff, Nat.reduceAdd, reduceCtorEq, Nat.reduceMul, okPt, wkPt]; refine (all_spec g bs 0 _ σ hs (by omega) (by omega) (by omega)).to fun v σ1 hv => ?_; obtain ⟨rfl, hs1, hf1⟩ := hv <;> (refine k' _ _ ?_; clear k' K'))
    all_goals refine S.nil ?_
    all_goals simp only [ze, reduceIte, Nat.reduceEqDiff, Nat.reduceLT, Nat.reduceLeDiff, Nat.reduceAdd, reduceCtorEq, Nat.reduceMul, okPt, wkPt]
    all_goals first | refine h8 _ _ ?_ | refine h7 _ _ ?_ | refine h6 _ _ ?_ | refine h5 _ _ ?_ | refine h4 _ _ ?_ | refine h3 _ _ ?_ | refine h2 _ _ ?_ | refine h1 _ _ ?_
    refine AW.seq_k fun K9 h9 => ?_
    refine AW.seq_k fun K10 h10 => ?_
    all_goals refine AW.reg0 ?_
    all_goals iterate 2 (refine S.g rfl rfl fun K' k' => ?_; simp only [zz, reduceIte, Nat.reduceEqDiff, Nat.reduceAdd, hne]; refine k' _ _ ?_; clear k' K')
    all_goals refine S.nil ?_
    all_goals simp only [ze, reduceIte, Nat.reduceEqDiff, Nat.reduceLT, Nat.reduceLeDiff, Nat.reduceAdd, reduceCtorEq, Nat.reduceMul, hne]
    all_goals first | refine h10 _ _ ?_ | refine h9 _ _ ?_ | refine h8 _ _ ?_ | refine h7 _ _ ?_ | refine h6 _ _ ?_ | refine h5 _ _ ?_ | refine h4 _ _ ?_ | refine h3 _ _ ?_ | refine h2 _ _ ?_ | refine h1 _ _ ?_
    refine AW.cond (b := false) (by simp [ev]) (fun hc => by cases hc) (fun hc => ?_)
    refine AW.skip ?_
    all_goals simp only [zs, reduceIte, Nat.reduceEqDiff, Nat.reduceLT, Nat.reduceLeDiff, Nat.reduceAdd, reduceCtorEq, Nat.reduceMul]
    all_goals first | refine h10 _ _ ?_ | refine h9 _ _ ?_ | refine h8 _ _ ?_ | refine h7 _ _ ?_ | refine h6 _ _ ?_ | refine h5 _ _ ?_ | refine h4 _ _ ?_ | refine h3 _ _ ?_ | refine h2 _ _ ?_ | refine h1 _ _ ?_
    all_goals refine AW.reg0 ?_
    all_goals iterate 5 (refine S.g rfl rfl fun K' k' => ?_; simp only [zz, reduceIte, Nat.reduceEqDiff, Nat.reduceAdd, okPt, wkPt, hw1, hw2]; refine k' _ _ ?_; clear k' K')
    all_goals (refine S.g rfl rfl fun K' k' => ?_; simp only [zz, reduceIte, Nat.reduceEqDiff, Nat.reduceLT, Nat.reduceLeDiff, Nat.reduceAdd, reduceCtorEq, Nat.reduceMul, okPt, wkPt, hw1, hw2]; refine (all_spec g _ (u + 1) (blen (u + 1)) σ1 hs1 (by simp only [List.length_append, lowB_len]; omega) (by omega) hu1).to fun v σ2 hv => ?_; obtain ⟨rfl, hs2, hf2⟩ := hv <;> (refine k' _ _ ?_; clear k' K'))
    all_goals refine S.nil ?_
    all_goals simp only [ze, reduceIte, Nat.reduceEqDiff, Nat.reduceLT, Nat.reduceLeDiff, Nat.reduceAdd, reduceCtorEq, Nat.reduceMul, okPt, wkPt, hw1, hw2]
    refine ⟨rfl, ?_, hf1.trans hf2⟩
    rw [natB, if_neg hm]
    simpa [lowB_zero] using hs2
end Go.Abs.M
namespace Go.Abs.M
open Go Go.Abs Go.Proofs
set_option maxRecDepth 20000
set_option linter.unusedSimpArgs false
set_option linter.unusedVariables false

theorem Nat_spec (g : Nat) (bs : List Bool) (u : Nat) (σ : Hp) (hs : Snk g bs σ) (hu : u < 18446744073709551616) (hf : bs.length + (natB u).length ≤ 1048576) :
    ACalls Try.prog 150 [ptrV g, .c (.int .u64 u)] σ (fun v σ' => v = .c (.int .i64 0) ∧ Snk g (bs ++ natB u) σ' ∧ Fr g σ σ') := by
  rw [natB_len] at hf
  have hE : roomE bs.length (sizeB u) = 0 := by rw [roomE, if_neg (by omega)]
  refine ACalls.intro Try.call150 Try.func150 rfl Try.ntmps150 Try.results150 (by simp) ?_
  refine AW.seq_k fun K1 h1 => ?_
  all_goals refine AW.reg0 ?_
  all_goals (refine S.g rfl rfl fun K' k' => ?_; simp only [zz, reduceIte, Nat.reduceEqDiff, Nat.reduceAdd]; refine k' _ _ ?_; clear k' K')
  all_goals refine S.nil ?_
  all_goals simp only [ze, reduceIte, Nat.reduceEqDiff, Nat.reduceLT, Nat.reduceLeDiff, Nat.reduceAdd, reduceCtorEq, Nat.reduceMul]
  all_goals first | refine h1 _ _ ?_
  refine AW.seq_k fun K2 h2 => ?_
  all_goals refine AW.reg0 ?_
  all_goals iterate 2 (refine S.g rfl rfl fun K' k' => ?_; simp only [zz, reduceIte, Nat.reduceEqDiff, Nat.reduceAdd, okPt, wkPt, hE]; refine k' _ _ ?_; clear k' K')
  all_goals (refine S.g rfl rfl fun K' k' => ?_; simp only [zz, reduceIte, Nat.reduceEqDiff, Nat.reduceLT, Nat.reduceLeDiff, Nat.reduceAdd, reduceCtorEq, Nat.reduceMul, okPt, wkPt, hE]; refine PCalls.eqto (size_spec _ hu) ?_ <;> (refine k' _ _ ?_; clear k' K'))
  all_goals (refine S.g rfl rfl fun K' k' => ?_; simp only [zz, reduceIte, Nat.reduceEqDiff, Nat.reduceLT, Nat.reduceLeDiff, Nat.reduceAdd, reduceCtorEq, Nat.reduceMul, okPt, wkPt, hE]; refine (room_spec g bs _ σ hs (by omega) (by omega)).to fun v σ1 hv => ?_; obtain ⟨rfl, rfl⟩ := hv <;> (refine k' _ _ ?_; clear k' K'))
  all_goals (refine S.g rfl rfl fun K' k' => ?_; simp only [zz, reduceIte, Nat.reduceEqDiff, Nat.reduceAdd, okPt, wkPt, hE]; refine k' _ _ ?_; clear k' K')
  all_goals refine S.nil ?_
  all_goals simp only [ze, reduceIte, Nat.reduceEqDiff, Nat.reduceLT, Nat.reduceLeDiff, Nat.reduceAdd, reduceCtorEq, Nat.reduceMul, okPt, wkPt, hE]
  all_goals first | refine h2 _ _ ?_ | refine h1 _ _ ?_
  refine AW.seq_k fun K3 h3 => ?_
  refine AW.seq_k fun K4 h4 => ?_
  all_goals refine AW.reg0 ?_
  all_goals iterate 2 (refine S.g rfl rfl fun K' k' => ?_; simp only [zz, reduceIte, Nat.reduceEqDiff, Nat.reduceAdd]; refine k' _ _ ?_; clear k' K')
  all_goals refine S.nil ?_
  all_goals simp only [ze, reduceIte, Nat.reduceEqDiff, Nat.reduceLT, Nat.reduceLeDiff, Nat.reduceAdd, reduceCtorEq, Nat.reduceMul]
  all_goals first | refine h4 _ _ ?_ | refine h3 _ _ ?_ | refine h2 _ _ ?_ | refine h1 _ _ ?_
  refine AW.cond (b := true) (by simp [ev]) (fun hc => ?_) (fun hc => by cases hc)
  all_goals refine AW.reg0 ?_
  all_goals iterate 2 (refine S.g rfl rfl fun K' k' => ?_; simp only [zz, reduceIte, Nat.reduceEqDiff, Nat.reduceAdd, okPt, wkPt]; refine k' _ _ ?_; clear k' K')
  all_goals (refine S.g rfl rfl fun K' k' => ?_; simp only [zz, reduceIte, Nat.reduceEqDiff, Nat.reduceLT, Nat.reduceLeDiff, Nat.reduceAdd, reduceCtorEq, Nat.reduceMul, okPt, wkPt]; refine (nat_spec g bs u _ hs (by omega) hu).to fun v σ1 hv => ?_; obtain ⟨rfl, hs1, hf1⟩ := hv <;> (refine k' _ _ ?_; clear k' K'))
  all_goals refine S.nil ?_
  all_goals simp only [ze, reduceIte, Nat.reduceEqDiff, Nat.reduceLT, Nat.reduceLeDiff, Nat.reduceAdd, reduceCtorEq, Nat.reduceMul, okPt, wkPt]
  all_goals first | refine h4 _ _ ?_ | refine h3 _ _ ?_ | refine h2 _ _ ?_ | refine h1 _ _ ?_
  refine AW.seq_k fun K5 h5 => ?_
  all_goals refine AW.reg0 ?_
  all_goals iterate 2 (refine S.g rfl rfl fun K' k' => ?_; simp only [zz, reduceIte, Nat.reduceEqDiff, Nat.reduceAdd]; refine k' _ _ ?_; clear k' K')
  all_goals refine S.nil ?_
  all_goals simp only [ze, reduceIte, Nat.reduceEqDiff, Nat.reduceLT, Nat.reduceLeDiff, Nat.reduceAdd, reduceCtorEq, Nat.reduceMul]
  all_goals first | refine h5 _ _ ?_ | refine h4 _ _ ?_ | refine h3 _ _ ?_ | refine h2 _ _ ?_ | refine h1 _ _ ?_
  refine AW.ret ?_
  all_goals simp only [zs, reduceIte, Nat.reduceEqDiff, Nat.reduceLT, Nat.reduceLeDiff, Nat.reduceAdd, reduceCtorEq, Nat.reduceMul]
  exact ⟨hs1, hf1⟩
theorem zig_bits (n : Int) (h : inI64 n) : IntKind.u64.wrap (IntKind.i64.wrap ((BitVec.ofInt IntKind.i64.bits (IntKind.i64.wrap (n * 2)) ^^^ BitVec.ofInt IntKind.i64.bits (n.fdiv 9223372036854775808)).toNat : Int)) = (zigB n : Int) ∧ zigB n < 18446744073709551616 := by
  have h64 : IntKind.i64.bits = 64 := rfl
  obtain ⟨h1, h2⟩ := h
  unfold zigB
  by_cases h0 : 0 ≤ n
  · have hd : n.fdiv 9223372036854775808 = 0 := by rw [Int.fdiv_eq_ediv_of_nonneg _ (by omega)]; omega
    rw [hd, if_pos h0]
    have hx : (BitVec.ofInt IntKind.i64.bits (IntKind.i64.wrap (n * 2)) ^^^ BitVec.ofInt IntKind.i64.bits 0).toNat = 2 * n.toNat := by
      rw [show BitVec.ofInt IntKind.i64.bits 0 = 0#IntKind.i64.bits from rfl, BitVec.xor_zero, BitVec.toNat_ofInt]
      unfold IntKind.wrap
      simp [IntKind.signed, IntKind.bits]
      omega
    rw [hx]
    refine ⟨?_, by omega⟩
    unfold IntKind.wrap
    simp [IntKind.signed, IntKind.bits]
    omega
  · have hd : n.fdiv 9223372036854775808 = -1 := by rw [Int.fdiv_eq_ediv_of_nonneg _ (by omega)]; omega
    rw [hd, if_neg h0]
    have hx : (BitVec.ofInt IntKind.i64.bits (IntKind.i64.wrap (n * 2)) ^^^ BitVec.ofInt IntKind.i64.bits (-1)).toNat = 2 * (-(n + 1)).toNat + 1 := by
      rw [show BitVec.ofInt IntKind.i64.bits (-1) = BitVec.allOnes IntKind.i64.bits from by decide, BitVec.xor_allOnes, BitVec.toNat_not, BitVec.toNat_ofInt]
      unfold IntKind.wrap
      simp [IntKind.signed, IntKind.bits]
      omega
    rw [hx]
    refine ⟨?_, by omega⟩
    unfold IntKind.wrap
    simp [IntKind.signed, IntKind.bits]
    omega
theorem Num_spec (g : Nat) (bs : List Bool) (n : Int) (σ : Hp) (hs : Snk g bs σ) (hn : inI64 n) (hf : bs.length + (numB n).length ≤ 1048576) :
    ACalls Try.prog 151 [ptrV g, .c (.int .i64 n)] σ (fun v σ' => v = .c (.int .i64 0) ∧ Snk g (bs ++ numB n) σ' ∧ Fr g σ σ') := by
  obtain ⟨hz, hz2⟩ := zig_bits n hn
  refine ACalls.intro Try.call151 Try.func151 rfl Try.ntmps151 Try.results151 (by simp) ?_
  have hp1 : (2 : Int) ^ min (Int.toNat 1) IntKind.i64.bits = 2 := rfl
  have hp63 : (2 : Int) ^ min (Int.toNat 63) IntKind.i64.bits = 9223372036854775808 := rfl
  have hp1 : (2 : Int) ^ min 1 IntKind.i64.bits = 2 := rfl
  have hp63 : (2 : Int) ^ min 63 IntKind.i64.bits = 9223372036854775808 := rfl
  refine AW.seq_k fun K1 h1 => ?_
  all_goals refine AW.reg0 ?_
  all_goals (refine S.g rfl rfl fun K' k' => ?_; simp only [zz, reduceIte, Nat.reduceEqDiff, Nat.reduceAdd]; refine k' _ _ ?_; clear k' K')
  all_goals refine S.nil ?_
  all_goals simp only [ze, reduceIte, Nat.reduceEqDiff, Nat.reduceLT, Nat.reduceLeDiff, Nat.reduceAdd, reduceCtorEq, Nat.reduceMul]
  all_goals first | refine h1 _ _ ?_
  refine AW.seq_k fun K2 h2 => ?_
  all_goals refine AW.reg0 ?_
  all_goals iterate 7 (refine S.g rfl rfl fun K' k' => ?_; simp only [zz, reduceIte, Nat.reduceEqDiff, Nat.reduceAdd, cv2_54, okPt, wkPt, Int.reduceLE, Int.reduceToNat, hp1, hp63, hz]; refine k' _ _ ?_; clear k' K')
  all_goals (refine S.g rfl rfl fun K' k' => ?_; simp only [zz, reduceIte, Nat.reduceEqDiff, Nat.reduceLT, Nat.reduceLeDiff, Nat.reduceAdd, reduceCtorEq, Nat.reduceMul, okPt, wkPt, Int.reduceLE, Int.reduceToNat, hp1, hp63, hz]; refine (Nat_spec g bs _ σ hs hz2 hf).to fun v σ1 hv => ?_; obtain ⟨rfl, hs1, hf1⟩ := hv <;> (refine k' _ _ ?_; clear k' K'))
  all_goals (refine S.g rfl rfl fun K' k' => ?_; simp only [zz, reduceIte, Nat.reduceEqDiff, Nat.reduceAdd, okPt, wkPt, Int.reduceLE, Int.reduceToNat, hp1, hp63, hz]; refine k' _ _ ?_; clear k' K')
  all_goals refine S.nil ?_
  all_goals simp only [ze, reduceIte, Nat.reduceEqDiff, Nat.reduceLT, Nat.reduceLeDiff, Nat.reduceAdd, reduceCtorEq, Nat.reduceMul, okPt, wkPt, Int.reduceLE, Int.reduceToNat, hp1, hp63, hz]
  all_goals first | refine h2 _ _ ?_ | refine h1 _ _ ?_
  refine AW.ret ?_
  all_goals simp only [zs, reduceIte, Nat.reduceEqDiff, Nat.reduceLT, Nat.reduceLeDiff, Nat.reduceAdd, reduceCtorEq, Nat.reduceMul]
  exact ⟨hs1, hf1⟩
end Go.Abs.M
namespace Go.Abs.M
open Go Go.Abs Go.Proofs
set_option maxRecDepth 20000
set_option linter.unusedSimpArgs false
set_option linter.unusedVariables false

theorem Bits_spec (g : Nat) (bs : List Bool) (u n : Nat) (σ : Hp) (hs : Snk g bs σ) (hn : n < 64) (hun : u < 2 ^ n) (hf : bs.length + n ≤ 1048576) :
    ACalls Try.prog 34 [ptrV g, .c (.int .u64 u), .c (.int .i64 n)] σ (fun v σ' => v = .c (.int .i64 0) ∧ Snk g (bs ++ lowB u n) σ' ∧ Fr g σ σ') := by
  obtain ⟨v, ho⟩ := hs.obj
  have hu : u < 18446744073709551616 := Nat.lt_of_lt_of_le hun (by rw [show 18446744073709551616 = 2 ^ 64 from rfl]; exact Nat.pow_le_pow_right (by omega) (by omega))
  have hE : roomE bs.length n = 0 := by rw [roomE, if_neg (by omega)]
  refine ACalls.intro Try.call34 Try.func34 rfl Try.ntmps34 Try.results34 (by simp) ?_
  have hl0 : decide ((n : Int) < 0) = false := by simp
  have hl1 : decide ((64 : Int) < n) = false := by simp; omega
  have hl2 : decide ((n : Int) < 64) = true := by simp; omega
  have hsh : Int.fdiv (u : Int) ((2 : Int) ^ min n IntKind.u64.bits) = 0 := by rw [shr64 u n (by omega), Nat.div_eq_of_lt hun]; rfl
  refine AW.seq_k fun K1 h1 => ?_
  all_goals refine AW.reg0 ?_
  all_goals (refine S.g rfl rfl fun K' k' => ?_; simp only [zz, reduceIte, Nat.reduceEqDiff, Nat.reduceAdd]; refine k' _ _ ?_; clear k' K')
  all_goals refine S.nil ?_
  all_goals simp only [ze, reduceIte, Nat.reduceEqDiff, Nat.reduceLT, Nat.reduceLeDiff, Nat.reduceAdd, reduceCtorEq, Nat.reduceMul]
  all_goals first | refine h1 _ _ ?_
  refine AW.seq_k fun K2 h2 => ?_
  refine AW.seq_k fun K3 h3 => ?_
  all_goals refine AW.reg0 ?_
  all_goals (refine S.g rfl rfl fun K' k' => ?_; simp only [zz, reduceIte, Nat.reduceEqDiff, Nat.reduceAdd, ptrV, ho, map3, un4, un51, TypeDesc.pointer.injEq, Bool.not_true, List.getD_cons_succ, List.getD_cons_zero]; refine k' _ _ ?_; clear k' K')
  all_goals (refine S.g rfl rfl fun K' k' => ?_; simp only [zz, reduceIte, Nat.reduceEqDiff, Nat.reduceLT, Nat.reduceLeDiff, Nat.reduceAdd, reduceCtorEq, Nat.reduceMul, un51, ptrV, ho, map3, un4, un51, TypeDesc.pointer.injEq, Bool.not_true, List.getD_cons_succ, List.getD_cons_zero]; refine S.bool fun b a9 => ?_; cases b <;> (try (exfalso; first | exact Bool.noConfusion a9 | (have h := of_decide_eq_true a9; omega) | (have h := of_decide_eq_false a9; omega))) <;> (refine k' _ _ ?_; clear k' K'))
  all_goals (refine S.g rfl rfl fun K' k' => ?_; simp only [zz, reduceIte, Nat.reduceEqDiff, Nat.reduceAdd, ptrV, ho, map3, un4, un51, TypeDesc.pointer.injEq, Bool.not_true, List.getD_cons_succ, List.getD_cons_zero]; refine k' _ _ ?_; clear k' K')
  all_goals iterate 5 (first | (refine S.y rfl rfl rfl rfl fun K' k' => ?_; simp only [zz, reduceIte, Nat.reduceEqDiff, Nat.reduceLT, Nat.reduceLeDiff, Nat.reduceAdd, reduceCtorEq, Nat.reduceMul, of114_0, ok4, sz4, ag4, ptrV, ho, map3, un4, un51, TypeDesc.pointer.injEq, Bool.not_true, List.getD_cons_succ, List.getD_cons_zero]; refine k' _ _ ?_; clear k' K') | ((first | refine S.x rfl rfl rfl rfl fun K' k' => ?_ | refine S.u rfl rfl rfl rfl fun K' k' => ?_); simp only [ze, reduceIte, Nat.reduceEqDiff]; refine k' _ _ ?_; clear k' K'))
  all_goals (refine S.g rfl rfl fun K' k' => ?_; simp only [zz, reduceIte, Nat.reduceEqDiff, Nat.reduceAdd, ptrV, ho, map3, un4, un51, TypeDesc.pointer.injEq, Bool.not_true, List.getD_cons_succ, List.getD_cons_zero]; refine k' _ _ ?_; clear k' K')
  all_goals refine S.nil ?_
  all_goals simp only [ze, reduceIte, Nat.reduceEqDiff, Nat.reduceLT, Nat.reduceLeDiff, Nat.reduceAdd, reduceCtorEq, Nat.reduceMul, ptrV, ho, map3, un4, un51, TypeDesc.pointer.injEq, Bool.not_true, List.getD_cons_succ, List.getD_cons_zero]
  all_goals first | refine h3 _ _ ?_ | refine h2 _ _ ?_ | refine h1 _ _ ?_
  refine AW.cond (b := false) (by simp [ev]) (fun hc => by cases hc) (fun hc => ?_)
  refine AW.skip ?_
  all_goals simp only [zs, reduceIte, Nat.reduceEqDiff, Nat.reduceLT, Nat.reduceLeDiff, Nat.reduceAdd, reduceCtorEq, Nat.reduceMul]
  all_goals first | refine h3 _ _ ?_ | refine h2 _ _ ?_ | refine h1 _ _ ?_
  refine AW.seq_k fun K4 h4 => ?_
  refine AW.seq_k fun K5 h5 => ?_
  all_goals refine AW.reg0 ?_
  all_goals (refine S.g rfl rfl fun K' k' => ?_; simp only [zz, reduceIte, Nat.reduceEqDiff, Nat.reduceAdd, hl0, hl1, hl2, hsh, gt_iff_lt]; refine k' _ _ ?_; clear k' K')
  all_goals (refine S.g rfl rfl fun K' k' => ?_; simp only [zz, reduceIte, Nat.reduceEqDiff, Nat.reduceLT, Nat.reduceLeDiff, Nat.reduceAdd, reduceCtorEq, Nat.reduceMul, hl0, hl1, hl2, hsh, gt_iff_lt]; refine S.bool fun b a18 => ?_; cases b <;> (try (exfalso; first | exact Bool.noConfusion a18 | (have h := of_decide_eq_true a18; omega) | (have h := of_decide_eq_false a18; omega))) <;> (refine k' _ _ ?_; clear k' K'))
  all_goals (refine S.g rfl rfl fun K' k' => ?_; simp only [zz, reduceIte, Nat.reduceEqDiff, Nat.reduceAdd, hl0, hl1, hl2, hsh, gt_iff_lt]; refine k' _ _ ?_; clear k' K')
  all_goals (first | (refine S.y rfl rfl rfl rfl fun K' k' => ?_; simp only [zz, reduceIte, Nat.reduceEqDiff, Nat.reduceAdd, hl0, hl1, hl2, hsh, gt_iff_lt]; refine k' _ _ ?_; clear k' K') | ((first | refine S.x rfl rfl rfl rfl fun K' k' => ?_ | refine S.u rfl rfl rfl rfl fun K' k' => ?_); simp only [ze, reduceIte, Nat.reduceEqDiff]; refine k' _ _ ?_; clear k' K'))
  all_goals (first | (refine S.y rfl rfl rfl rfl fun K' k' => ?_; simp only [zz, reduceIte, Nat.reduceEqDiff, Nat.reduceLT, Nat.reduceLeDiff, Nat.reduceAdd, reduceCtorEq, Nat.reduceMul, hl0, hl1, hl2, hsh, gt_iff_lt]; refine S.bool fun b a21 => ?_; cases b <;> (try (exfalso; first | exact Bool.noConfusion a21 | (have h := of_decide_eq_true a21; omega) | (have h := of_decide_eq_false a21; omega))) <;> (refine k' _ _ ?_; clear k' K')) | ((first | refine S.x rfl rfl rfl rfl fun K' k' => ?_ | refine S.u rfl rfl rfl rfl fun K' k' => ?_); simp only [ze, reduceIte, Nat.reduceEqDiff]; refine k' _ _ ?_; clear k' K'))
  all_goals iterate 2 (refine S.g rfl rfl fun K' k' => ?_; simp only [zz, reduceIte, Nat.reduceEqDiff, Nat.reduceAdd, hl0, hl1, hl2, hsh, gt_iff_lt]; refine k' _ _ ?_; clear k' K')
  all_goals (first | (refine S.y rfl rfl rfl rfl fun K' k' => ?_; simp only [zz, reduceIte, Nat.reduceEqDiff, Nat.reduceAdd, hl0, hl1, hl2, hsh, gt_iff_lt]; refine k' _ _ ?_; clear k' K') | ((first | refine S.x rfl rfl rfl rfl fun K' k' => ?_ | refine S.u rfl rfl rfl rfl fun K' k' => ?_); simp only [ze, reduceIte, Nat.reduceEqDiff]; refine k' _ _ ?_; clear k' K'))
  all_goals (first | (refine S.y rfl rfl rfl rfl fun K' k' => ?_; simp only [zz, reduceIte, Nat.reduceEqDiff, Nat.reduceLT, Nat.reduceLeDiff, Nat.reduceAdd, reduceCtorEq, Nat.reduceMul, hl0, hl1, hl2, hsh, gt_iff_lt]; refine S.bool fun b a25 => ?_; cases b <;> (try (exfalso; first | exact Bool.noConfusion a25 | (have h := of_decide_eq_true a25; omega) | (have h := of_decide_eq_false a25; omega))) <;> (refine k' _ _ ?_; clear k' K')) | ((first | refine S.x rfl rfl rfl rfl fun K' k' => ?_ | refine S.u rfl rfl rfl rfl fun K' k' => ?_); simp only [ze, reduceIte, Nat.reduceEqDiff]; refine k' _ _ ?_; clear k' K'))
  all_goals iterate 6 (first | (refine S.y rfl rfl rfl rfl fun K' k' => ?_; simp only [zz, reduceIte, Nat.reduceEqDiff, Nat.reduceAdd, hl0, hl1, hl2, hsh, gt_iff_lt]; refine k' _ _ ?_; clear k' K') | ((first | refine S.x rfl rfl rfl rfl fun K' k' => ?_ | refine S.u rfl rfl rfl rfl fun K' k' => ?_); simp only [ze, reduceIte, Nat.reduceEqDiff]; refine k' _ _ ?_; clear k' K'))
  all_goals (refine S.g rfl rfl fun K' k' => ?_; simp only [zz, reduceIte, Nat.reduceEqDiff, Nat.reduceAdd, hl0, hl1, hl2, hsh, gt_iff_lt]; refine k' _ _ ?_; clear k' K')
  all_goals refine S.nil ?_
  all_goals simp only [ze, reduceIte, Nat.reduceEqDiff, Nat.reduceLT, Nat.reduceLeDiff, Nat.reduceAdd, reduceCtorEq, Nat.reduceMul, hl0, hl1, hl2, hsh, gt_iff_lt]
  all_goals first | refine h5 _ _ ?_ | refine h4 _ _ ?_ | refine h3 _ _ ?_ | refine h2 _ _ ?_ | refine h1 _ _ ?_
  refine AW.cond (b := false) (by simp [ev]) (fun hc => by cases hc) (fun hc => ?_)
  refine AW.skip ?_
  all_goals simp only [zs, reduceIte, Nat.reduceEqDiff, Nat.reduceLT, Nat.reduceLeDiff, Nat.reduceAdd, reduceCtorEq, Nat.reduceMul]
  all_goals first | refine h5 _ _ ?_ | refine h4 _ _ ?_ | refine h3 _ _ ?_ | refine h2 _ _ ?_ | refine h1 _ _ ?_
  refine AW.seq_k fun K6 h6 => ?_
  all_goals refine AW.reg0 ?_
  all_goals iterate 2 (refine S.g rfl rfl fun K' k' => ?_; simp only [zz, reduceIte, Nat.reduceEqDiff, Nat.reduceAdd, hE]; refine k' _ _ ?_; clear k' K')
  all_goals (refine S.g rfl rfl fun K' k' => ?_; simp only [zz, reduceIte, Nat.reduceEqDiff, Nat.reduceLT, Nat.reduceLeDiff, Nat.reduceAdd, reduceCtorEq, Nat.reduceMul, hE]; refine (room_spec g bs _ σ hs (by omega) (by omega)).to fun v σ1 hv => ?_; obtain ⟨rfl, rfl⟩ := hv <;> (refine k' _ _ ?_; clear k' K'))
  all_goals (refine S.g rfl rfl fun K' k' => ?_; simp only [zz, reduceIte, Nat.reduceEqDiff, Nat.reduceAdd, hE]; refine k' _ _ ?_; clear k' K')
  all_goals refine S.nil ?_
  all_goals simp only [ze, reduceIte, Nat.reduceEqDiff, Nat.reduceLT, Nat.reduceLeDiff, Nat.reduceAdd, reduceCtorEq, Nat.reduceMul, hE]
  all_goals first | refine h6 _ _ ?_ | refine h5 _ _ ?_ | refine h4 _ _ ?_ | refine h3 _ _ ?_ | refine h2 _ _ ?_ | refine h1 _ _ ?_
  refine AW.seq_k fun K7 h7 => ?_
  refine AW.seq_k fun K8 h8 => ?_
  all_goals refine AW.reg0 ?_
  all_goals iterate 2 (refine S.g rfl rfl fun K' k' => ?_; simp only [zz, reduceIte, Nat.reduceEqDiff, Nat.reduceAdd]; refine k' _ _ ?_; clear k' K')
  all_goals refine S.nil ?_
  all_goals simp only [ze, reduceIte, Nat.reduceEqDiff, Nat.reduceLT, Nat.reduceLeDiff, Nat.reduceAdd, reduceCtorEq, Nat.reduceMul]
  all_goals first | refine h8 _ _ ?_ | refine h7 _ _ ?_ | refine h6 _ _ ?_ | refine h5 _ _ ?_ | refine h4 _ _ ?_ | refine h3 _ _ ?_ | refine h2 _ _ ?_ | refine h1 _ _ ?_
  refine AW.cond (b := true) (by simp [ev]) (fun hc => ?_) (fun hc => by cases hc)
  all_goals refine AW.reg0 ?_
  all_goals iterate 3 (refine S.g rfl rfl fun K' k' => ?_; simp only [zz, reduceIte, Nat.reduceEqDiff, Nat.reduceAdd]; refine k' _ _ ?_; clear k' K')
  all_goals (refine S.g rfl rfl fun K' k' => ?_; simp only [zz, reduceIte, Nat.reduceEqDiff, Nat.reduceLT, Nat.reduceLeDiff, Nat.reduceAdd, reduceCtorEq, Nat.reduceMul]; refine (all_spec g bs u n _ hs (by omega) (by omega) hu).to fun v σ1 hv => ?_; obtain ⟨rfl, hs1, hf1⟩ := hv <;> (refine k' _ _ ?_; clear k' K'))
  all_goals refine S.nil ?_
  all_goals simp only [ze, reduceIte, Nat.reduceEqDiff, Nat.reduceLT, Nat.reduceLeDiff, Nat.reduceAdd, reduceCtorEq, Nat.reduceMul]
  all_goals first | refine h8 _ _ ?_ | refine h7 _ _ ?_ | refine h6 _ _ ?_ | refine h5 _ _ ?_ | refine h4 _ _ ?_ | refine h3 _ _ ?_ | refine h2 _ _ ?_ | refine h1 _ _ ?_
  refine AW.seq_k fun K9 h9 => ?_
  all_goals refine AW.reg0 ?_
  all_goals iterate 2 (refine S.g rfl rfl fun K' k' => ?_; simp only [zz, reduceIte, Nat.reduceEqDiff, Nat.reduceAdd]; refine k' _ _ ?_; clear k' K')
  all_goals refine S.nil ?_
  all_goals simp only [ze, reduceIte, Nat.reduceEqDiff, Nat.reduceLT, Nat.reduceLeDiff, Nat.reduceAdd, reduceCtorEq, Nat.reduceMul]
  all_goals first | refine h9 _ _ ?_ | refine h8 _ _ ?_ | refine h7 _ _ ?_ | refine h6 _ _ ?_ | refine h5 _ _ ?_ | refine h4 _ _ ?_ | refine h3 _ _ ?_ | refine h2 _ _ ?_ | refine h1 _ _ ?_
  refine AW.ret ?_
  all_goals simp only [zs, reduceIte, Nat.reduceEqDiff, Nat.reduceLT, Nat.reduceLeDiff, Nat.reduceAdd, reduceCtorEq, Nat.reduceMul]
  exact ⟨hs1, hf1⟩
theorem Flags_spec (g : Nat) (bs : List Bool) (σ : Hp) (hs : Snk g bs σ) (hf : bs.length ≤ 1048576) :
    ACalls Try.prog 89 [ptrV g, .sl []] σ (fun v σ' => v = .c (.int .i64 0) ∧ σ' = σ) := by
  have hE : roomE bs.length 0 = 0 := by rw [roomE, if_neg (by omega)]
  refine ACalls.intro Try.call89 Try.func89 rfl Try.ntmps89 Try.results89 (by simp) ?_
  refine AW.seq_k fun K1 h1 => ?_
  all_goals refine AW.reg0 ?_
  all_goals (refine S.g rfl rfl fun K' k' => ?_; simp only [zz, reduceIte, Nat.reduceEqDiff, Nat.reduceAdd]; refine k' _ _ ?_; clear k' K')
  all_goals refine S.nil ?_
  all_goals simp only [ze, reduceIte, Nat.reduceEqDiff, Nat.reduceLT, Nat.reduceLeDiff, Nat.reduceAdd, reduceCtorEq, Nat.reduceMul]
  all_goals first | refine h1 _ _ ?_
  refine AW.seq_k fun K2 h2 => ?_
  all_goals refine AW.reg0 ?_
  all_goals iterate 3 (refine S.g rfl rfl fun K' k' => ?_; simp only [zz, reduceIte, Nat.reduceEqDiff, Nat.reduceLT, Nat.reduceLeDiff, Nat.reduceAdd, reduceCtorEq, Nat.reduceMul, sl56, el56, ok4, sz4, ag4, okPt, wkPt, hE]; refine k' _ _ ?_; clear k' K')
  all_goals (refine S.g rfl rfl fun K' k' => ?_; simp only [zz, reduceIte, Nat.reduceEqDiff, Nat.reduceLT, Nat.reduceLeDiff, Nat.reduceAdd, reduceCtorEq, Nat.reduceMul, okPt, wkPt, hE]; refine (room_spec g bs 0 σ hs (by omega) (by omega)).to fun v σ1 hv => ?_; obtain ⟨rfl, rfl⟩ := hv <;> (refine k' _ _ ?_; clear k' K'))
  all_goals (refine S.g rfl rfl fun K' k' => ?_; simp only [zz, reduceIte, Nat.reduceEqDiff, Nat.reduceAdd, okPt, wkPt, hE]; refine k' _ _ ?_; clear k' K')
  all_goals refine S.nil ?_
  all_goals simp only [ze, reduceIte, Nat.reduceEqDiff, Nat.reduceLT, Nat.reduceLeDiff, Nat.reduceAdd, reduceCtorEq, Nat.reduceMul, okPt, wkPt, hE]
  all_goals first | refine h2 _ _ ?_ | refine h1 _ _ ?_
  refine AW.seq_k fun K3 h3 => ?_
  refine AW.seq_k fun K4 h4 => ?_
  all_goals refine AW.reg0 ?_
  all_goals iterate 2 (refine S.g rfl rfl fun K' k' => ?_; simp only [zz, reduceIte, Nat.reduceEqDiff, Nat.reduceAdd]; refine k' _ _ ?_; clear k' K')
  all_goals refine S.nil ?_
  all_goals simp only [ze, reduceIte, Nat.reduceEqDiff, Nat.reduceLT, Nat.reduceLeDiff, Nat.reduceAdd, reduceCtorEq, Nat.reduceMul]
  all_goals first | refine h4 _ _ ?_ | refine h3 _ _ ?_ | refine h2 _ _ ?_ | refine h1 _ _ ?_
  refine AW.cond (b := true) (by simp [ev]) (fun hc => ?_) (fun hc => by cases hc)
  refine AW.seq_k fun K5 h5 => ?_
  all_goals refine AW.reg0 ?_
  all_goals iterate 3 (refine S.g rfl rfl fun K' k' => ?_; simp only [zz, reduceIte, Nat.reduceEqDiff, Nat.reduceLT, Nat.reduceLeDiff, Nat.reduceAdd, reduceCtorEq, Nat.reduceMul, sl56, el56, ok4, sz4, ag4]; refine k' _ _ ?_; clear k' K')
  all_goals refine S.nil ?_
  all_goals simp only [ze, reduceIte, Nat.reduceEqDiff, Nat.reduceLT, Nat.reduceLeDiff, Nat.reduceAdd, reduceCtorEq, Nat.reduceMul]
  all_goals first | refine h5 _ _ ?_ | refine h4 _ _ ?_ | refine h3 _ _ ?_ | refine h2 _ _ ?_ | refine h1 _ _ ?_
  refine AW.block ?_   -- 0
  refine AW.loop (fun m s σ2 => σ2 = σ1 ∧ s.t 15 = .c (.int .i64 0) ∧ s.t 16 = .c (.int .i64 0) ∧ s.t 5 = .c (.int .i64 0)) 0 ?_ ?_
  · all_goals simp only [zs, reduceIte, Nat.reduceEqDiff, Nat.reduceLT, Nat.reduceLeDiff, Nat.reduceAdd, reduceCtorEq, Nat.reduceMul]
    simp
  rintro m s σ2 ⟨rfl, e15, e16, e5⟩
  refine AW.seq_k fun K6 h6 => ?_
  all_goals refine AW.reg0 ?_
  all_goals (refine S.g rfl rfl fun K' k' => ?_; simp only [zz, reduceIte, Nat.reduceEqDiff, Nat.reduceAdd, e15, e16]; refine k' _ _ ?_; clear k' K')
  all_goals refine S.nil ?_
  all_goals simp only [ze, reduceIte, Nat.reduceEqDiff, Nat.reduceLT, Nat.reduceLeDiff, Nat.reduceAdd, reduceCtorEq, Nat.reduceMul, e15, e16]
  all_goals first | refine h6 _ _ ?_ | refine h5 _ _ ?_ | refine h4 _ _ ?_ | refine h3 _ _ ?_ | refine h2 _ _ ?_ | refine h1 _ _ ?_
  refine AW.seq_k fun K7 h7 => ?_
  refine AW.cond (b := false) (by simp [ev]) (fun hc => by cases hc) (fun hc => ?_)
  refine AW.exit ?_
  all_goals simp only [zs, reduceIte, Nat.reduceEqDiff, Nat.reduceLT, Nat.reduceLeDiff, Nat.reduceAdd, reduceCtorEq, Nat.reduceMul]
  all_goals first | refine h7 _ _ ?_ | refine h6 _ _ ?_ | refine h5 _ _ ?_ | refine h4 _ _ ?_ | refine h3 _ _ ?_ | refine h2 _ _ ?_ | refine h1 _ _ ?_
  refine AW.seq_k fun K8 h8 => ?_
  all_goals refine AW.reg0 ?_
  all_goals iterate 2 (refine S.g rfl rfl fun K' k' => ?_; simp only [zz, reduceIte, Nat.reduceEqDiff, Nat.reduceAdd, e5]; refine k' _ _ ?_; clear k' K')
  all_goals refine S.nil ?_
  all_goals simp only [ze, reduceIte, Nat.reduceEqDiff, Nat.reduceLT, Nat.reduceLeDiff, Nat.reduceAdd, reduceCtorEq, Nat.reduceMul, e5]
  all_goals first | refine h8 _ _ ?_ | refine h7 _ _ ?_ | refine h6 _ _ ?_ | refine h5 _ _ ?_ | refine h4 _ _ ?_ | refine h3 _ _ ?_ | refine h2 _ _ ?_ | refine h1 _ _ ?_
  refine AW.ret ?_
  all_goals simp only [zs, reduceIte, Nat.reduceEqDiff, Nat.reduceLT, Nat.reduceLeDiff, Nat.reduceAdd, reduceCtorEq, Nat.reduceMul]
theorem NewSink_spec (σ : Hp) : ACalls Try.prog 33 [] σ (fun v σ' => ∃ g, v = ptrV g ∧ σ.obj g = none ∧ Snk g [] σ' ∧ σ' = σ.setObj g (some (skC 0 (.c (.slice none 0 0))))) := by
  refine ACalls.intro Try.call33 Try.func33 rfl Try.ntmps33 Try.results33 (by simp) ?_
  refine AW.seq_k fun K1 h1 => ?_
  all_goals refine AW.reg0 ?_
  all_goals (refine S.g rfl rfl fun K' k' => ?_; simp only [zz, reduceIte, Nat.reduceEqDiff, Nat.reduceAdd]; refine k' _ _ ?_; clear k' K')
  all_goals refine S.nil ?_
  all_goals simp only [ze, reduceIte, Nat.reduceEqDiff, Nat.reduceLT, Nat.reduceLeDiff, Nat.reduceAdd, reduceCtorEq, Nat.reduceMul]
  all_goals first | refine h1 _ _ ?_
  refine AW.seq_k fun K2 h2 => ?_
  all_goals refine AW.region (T := { hp := fun d => d == 2 }) (fun _ _ h => by cases h) rfl ?_
  all_goals (refine S.g rfl rfl fun K' k' => ?_; simp only [zz, reduceIte, Nat.reduceEqDiff, Nat.reduceLT, Nat.reduceLeDiff, Nat.reduceAdd, reduceCtorEq, Nat.reduceMul, zt114, pl114]; refine k' _ _ ?_; clear k' K')
  all_goals (refine S.g rfl rfl fun K' k' => ?_; simp only [zz, reduceIte, Nat.reduceEqDiff, Nat.reduceLT, Nat.reduceLeDiff, Nat.reduceAdd, reduceCtorEq, Nat.reduceMul, ok114, sz114, ag114]; intro g hg <;> (refine k' _ _ ?_; clear k' K'))
  all_goals (refine S.g rfl rfl fun K' k' => ?_; simp only [zz, reduceIte, Nat.reduceEqDiff, Nat.reduceAdd]; refine k' _ _ ?_; clear k' K')
  all_goals refine S.nil ?_
  all_goals simp only [ze, reduceIte, Nat.reduceEqDiff, Nat.reduceLT, Nat.reduceLeDiff, Nat.reduceAdd, reduceCtorEq, Nat.reduceMul]
  all_goals first | refine h2 _ _ ?_ | refine h1 _ _ ?_
  refine AW.ret ?_
  all_goals simp only [zs, reduceIte, Nat.reduceEqDiff, Nat.reduceLT, Nat.reduceLeDiff, Nat.reduceAdd, reduceCtorEq, Nat.reduceMul]
  exact ⟨g, rfl, hg, .inl ⟨rfl, by simp [skC]⟩, rfl⟩
theorem Len_spec (g : Nat) (bs : List Bool) (σ : Hp) (hs : Snk g bs σ) : ACalls Try.prog 39 [ptrV g] σ (fun v σ' => v = .c (.int .i64 (bs.length : Nat)) ∧ σ' = σ) := by
  obtain ⟨v, ho⟩ := hs.obj
  refine ACalls.intro Try.call39 Try.func39 rfl Try.ntmps39 Try.results39 (by simp) ?_
  refine AW.seq_k fun K1 h1 => ?_
  all_goals refine AW.reg0 ?_
  all_goals (refine S.g rfl rfl fun K' k' => ?_; simp only [zz, reduceIte, Nat.reduceEqDiff, Nat.reduceAdd]; refine k' _ _ ?_; clear k' K')
  all_goals refine S.nil ?_
  all_goals simp only [ze, reduceIte, Nat.reduceEqDiff, Nat.reduceLT, Nat.reduceLeDiff, Nat.reduceAdd, reduceCtorEq, Nat.reduceMul]
  all_goals first | refine h1 _ _ ?_
  refine AW.seq_k fun K2 h2 => ?_
  refine AW.seq_k fun K3 h3 => ?_
  all_goals refine AW.reg0 ?_
  all_goals iterate 2 (refine S.g rfl rfl fun K' k' => ?_; simp only [zz, reduceIte, Nat.reduceEqDiff, Nat.reduceAdd, un51, ptrV, un51, TypeDesc.pointer.injEq]; refine k' _ _ ?_; clear k' K')
  all_goals refine S.nil ?_
  all_goals simp only [ze, reduceIte, Nat.reduceEqDiff, Nat.reduceLT, Nat.reduceLeDiff, Nat.reduceAdd, reduceCtorEq, Nat.reduceMul, ptrV, un51, TypeDesc.pointer.injEq]
  all_goals first | refine h3 _ _ ?_ | refine h2 _ _ ?_ | refine h1 _ _ ?_
  refine AW.cond (b := false) (by simp [ev]) (fun hc => by cases hc) (fun hc => ?_)
  refine AW.skip ?_
  all_goals simp only [zs, reduceIte, Nat.reduceEqDiff, Nat.reduceLT, Nat.reduceLeDiff, Nat.reduceAdd, reduceCtorEq, Nat.reduceMul]
  all_goals first | refine h3 _ _ ?_ | refine h2 _ _ ?_ | refine h1 _ _ ?_
  refine AW.seq_k fun K4 h4 => ?_
  all_goals refine AW.reg0 ?_
  all_goals iterate 5 (refine S.g rfl rfl fun K' k' => ?_; simp only [zz, reduceIte, Nat.reduceEqDiff, Nat.reduceLT, Nat.reduceLeDiff, Nat.reduceAdd, reduceCtorEq, Nat.reduceMul, of114_2, ok3, sz3, ag3, ho, map3, List.getD_cons_succ, List.getD_cons_zero]; refine k' _ _ ?_; clear k' K')
  all_goals refine S.nil ?_
  all_goals simp only [ze, reduceIte, Nat.reduceEqDiff, Nat.reduceLT, Nat.reduceLeDiff, Nat.reduceAdd, reduceCtorEq, Nat.reduceMul, ho, map3, List.getD_cons_succ, List.getD_cons_zero]
  all_goals first | refine h4 _ _ ?_ | refine h3 _ _ ?_ | refine h2 _ _ ?_ | refine h1 _ _ ?_
  refine AW.ret ?_
  all_goals simp only [zs, reduceIte, Nat.reduceEqDiff, Nat.reduceLT, Nat.reduceLeDiff, Nat.reduceAdd, reduceCtorEq, Nat.reduceMul]
end Go.Abs.M
namespace Go.Abs.M
open Go Go.Abs Go.Proofs
set_option maxRecDepth 20000
set_option linter.unusedSimpArgs false
set_option linter.unusedVariables false

theorem flat_len (l : List UInt8) : (l.flatMap fun b => lowB b.toNat 8).length = 8 * l.length := by
  induction l with
  | nil => rfl
  | cons b l ih => rw [List.flatMap_cons, List.length_append, ih, lowB_len, List.length_cons]; omega
theorem textB_len (s : ByteArray) : (textB s).length = sizeB s.size + 8 * s.size := by
  rw [textB, List.length_append, natB_len, flat_len]; rfl
theorem Text_spec (g : Nat) (bs : List Bool) (t : ByteArray) (σ : Hp) (hs : Snk g bs σ) (hf : bs.length + (textB t).length ≤ 1048576) :
    ACalls Try.prog 117 [ptrV g, .c (.string t)] σ (fun v σ' => v = .c (.int .i64 0) ∧ Snk g (bs ++ textB t) σ' ∧ Fr g σ σ') := by
  rw [textB_len] at hf
  have hsz : t.size < 18446744073709551616 := by omega
  obtain ⟨v, ho⟩ := hs.obj
  have hE : roomE bs.length (sizeB t.size + 8 * t.size) = 0 := by rw [roomE, if_neg (by omega)]
  refine ACalls.intro Try.call117 Try.func117 rfl Try.ntmps117 Try.results117 (by simp) ?_
  have hl0 : decide ((1048576 : Int) < (t.size : Int)) = false := by simp; omega
  have hwu : IntKind.u64.wrap (t.size : Int) = (t.size : Int) := wrap_u64 hsz
  have hw8 : IntKind.i64.wrap (8 * (t.size : Int)) = ((8 * t.size : Nat) : Int) := by rw [wrap_small _ (by omega) (by omega)]; simp
  have hwa : IntKind.i64.wrap ((sizeB t.size : Int) + ((8 * t.size : Nat) : Int)) = ((sizeB t.size + 8 * t.size : Nat) : Int) := by rw [wrap_small _ (by omega) (by omega)]; simp
  have hel : t.data.toList.length = t.size := rfl
  refine AW.seq_k fun K1 h1 => ?_
  all_goals refine AW.reg0 ?_
  all_goals (refine S.g rfl rfl fun K' k' => ?_; simp only [zz, reduceIte, Nat.reduceEqDiff, Nat.reduceAdd]; refine k' _ _ ?_; clear k' K')
  all_goals refine S.nil ?_
  all_goals simp only [ze, reduceIte, Nat.reduceEqDiff, Nat.reduceLT, Nat.reduceLeDiff, Nat.reduceAdd, reduceCtorEq, Nat.reduceMul]
  all_goals first | refine h1 _ _ ?_
  refine AW.seq_k fun K2 h2 => ?_
  refine AW.seq_k fun K3 h3 => ?_
  all_goals refine AW.reg0 ?_
  all_goals (refine S.g rfl rfl fun K' k' => ?_; simp only [zz, reduceIte, Nat.reduceEqDiff, Nat.reduceAdd, ptrV, ho, map3, un4, un51, TypeDesc.pointer.injEq, Bool.not_true, List.getD_cons_succ, List.getD_cons_zero]; refine k' _ _ ?_; clear k' K')
  all_goals (refine S.g rfl rfl fun K' k' => ?_; simp only [zz, reduceIte, Nat.reduceEqDiff, Nat.reduceLT, Nat.reduceLeDiff, Nat.reduceAdd, reduceCtorEq, Nat.reduceMul, un51, ptrV, ho, map3, un4, un51, TypeDesc.pointer.injEq, Bool.not_true, List.getD_cons_succ, List.getD_cons_zero]; refine S.bool fun b a9 => ?_; cases b <;> (try (exfalso; first | exact Bool.noConfusion a9 | (have h := of_decide_eq_true a9; omega) | (have h := of_decide_eq_false a9; omega))) <;> (refine k' _ _ ?_; clear k' K'))
  all_goals (refine S.g rfl rfl fun K' k' => ?_; simp only [zz, reduceIte, Nat.reduceEqDiff, Nat.reduceAdd, ptrV, ho, map3, un4, un51, TypeDesc.pointer.injEq, Bool.not_true, List.getD_cons_succ, List.getD_cons_zero]; refine k' _ _ ?_; clear k' K')
  all_goals iterate 5 (first | (refine S.y rfl rfl rfl rfl fun K' k' => ?_; simp only [zz, reduceIte, Nat.reduceEqDiff, Nat.reduceLT, Nat.reduceLeDiff, Nat.reduceAdd, reduceCtorEq, Nat.reduceMul, of114_0, ok4, sz4, ag4, ptrV, ho, map3, un4, un51, TypeDesc.pointer.injEq, Bool.not_true, List.getD_cons_succ, List.getD_cons_zero]; refine k' _ _ ?_; clear k' K') | ((first | refine S.x rfl rfl rfl rfl fun K' k' => ?_ | refine S.u rfl rfl rfl rfl fun K' k' => ?_); simp only [ze, reduceIte, Nat.reduceEqDiff]; refine k' _ _ ?_; clear k' K'))
  all_goals (refine S.g rfl rfl fun K' k' => ?_; simp only [zz, reduceIte, Nat.reduceEqDiff, Nat.reduceAdd, ptrV, ho, map3, un4, un51, TypeDesc.pointer.injEq, Bool.not_true, List.getD_cons_succ, List.getD_cons_zero]; refine k' _ _ ?_; clear k' K')
  all_goals refine S.nil ?_
  all_goals simp only [ze, reduceIte, Nat.reduceEqDiff, Nat.reduceLT, Nat.reduceLeDiff, Nat.reduceAdd, reduceCtorEq, Nat.reduceMul, ptrV, ho, map3, un4, un51, TypeDesc.pointer.injEq, Bool.not_true, List.getD_cons_succ, List.getD_cons_zero]
  all_goals first | refine h3 _ _ ?_ | refine h2 _ _ ?_ | refine h1 _ _ ?_
  refine AW.cond (b := false) (by simp [ev]) (fun hc => by cases hc) (fun hc => ?_)
  refine AW.skip ?_
  all_goals simp only [zs, reduceIte, Nat.reduceEqDiff, Nat.reduceLT, Nat.reduceLeDiff, Nat.reduceAdd, reduceCtorEq, Nat.reduceMul]
  all_goals first | refine h3 _ _ ?_ | refine h2 _ _ ?_ | refine h1 _ _ ?_
  refine AW.seq_k fun K4 h4 => ?_
  refine AW.seq_k fun K5 h5 => ?_
  all_goals refine AW.reg0 ?_
  all_goals iterate 3 (refine S.g rfl rfl fun K' k' => ?_; simp only [zz, reduceIte, Nat.reduceEqDiff, Nat.reduceLT, Nat.reduceLeDiff, Nat.reduceAdd, reduceCtorEq, Nat.reduceMul, st9, hl0, gt_iff_lt]; refine k' _ _ ?_; clear k' K')
  all_goals refine S.nil ?_
  all_goals simp only [ze, reduceIte, Nat.reduceEqDiff, Nat.reduceLT, Nat.reduceLeDiff, Nat.reduceAdd, reduceCtorEq, Nat.reduceMul, hl0, gt_iff_lt]
  all_goals first | refine h5 _ _ ?_ | refine h4 _ _ ?_ | refine h3 _ _ ?_ | refine h2 _ _ ?_ | refine h1 _ _ ?_
  refine AW.cond (b := false) (by simp [ev]) (fun hc => by cases hc) (fun hc => ?_)
  refine AW.skip ?_
  all_goals simp only [zs, reduceIte, Nat.reduceEqDiff, Nat.reduceLT, Nat.reduceLeDiff, Nat.reduceAdd, reduceCtorEq, Nat.reduceMul]
  all_goals first | refine h5 _ _ ?_ | refine h4 _ _ ?_ | refine h3 _ _ ?_ | refine h2 _ _ ?_ | refine h1 _ _ ?_
  refine AW.seq_k fun K6 h6 => ?_
  all_goals refine AW.reg0 ?_
  all_goals iterate 4 (refine S.g rfl rfl fun K' k' => ?_; simp only [zz, reduceIte, Nat.reduceEqDiff, Nat.reduceLT, Nat.reduceLeDiff, Nat.reduceAdd, reduceCtorEq, Nat.reduceMul, st9, cv3_54, hwu, hw8, hwa, hE]; refine k' _ _ ?_; clear k' K')
  all_goals (refine S.g rfl rfl fun K' k' => ?_; simp only [zz, reduceIte, Nat.reduceEqDiff, Nat.reduceLT, Nat.reduceLeDiff, Nat.reduceAdd, reduceCtorEq, Nat.reduceMul, hwu, hw8, hwa, hE]; refine PCalls.eqto (size_spec _ hsz) ?_ <;> (refine k' _ _ ?_; clear k' K'))
  all_goals iterate 4 (refine S.g rfl rfl fun K' k' => ?_; simp only [zz, reduceIte, Nat.reduceEqDiff, Nat.reduceLT, Nat.reduceLeDiff, Nat.reduceAdd, reduceCtorEq, Nat.reduceMul, st9, hwu, hw8, hwa, hE]; refine k' _ _ ?_; clear k' K')
  all_goals (refine S.g rfl rfl fun K' k' => ?_; simp only [zz, reduceIte, Nat.reduceEqDiff, Nat.reduceLT, Nat.reduceLeDiff, Nat.reduceAdd, reduceCtorEq, Nat.reduceMul, hwu, hw8, hwa, hE]; refine (room_spec g bs _ σ hs (by omega) (by omega)).to fun v σ1 hv => ?_; obtain ⟨rfl, rfl⟩ := hv <;> (refine k' _ _ ?_; clear k' K'))
  all_goals (refine S.g rfl rfl fun K' k' => ?_; simp only [zz, reduceIte, Nat.reduceEqDiff, Nat.reduceAdd, hwu, hw8, hwa, hE]; refine k' _ _ ?_; clear k' K')
  all_goals refine S.nil ?_
  all_goals simp only [ze, reduceIte, Nat.reduceEqDiff, Nat.reduceLT, Nat.reduceLeDiff, Nat.reduceAdd, reduceCtorEq, Nat.reduceMul, hwu, hw8, hwa, hE]
  all_goals first | refine h6 _ _ ?_ | refine h5 _ _ ?_ | refine h4 _ _ ?_ | refine h3 _ _ ?_ | refine h2 _ _ ?_ | refine h1 _ _ ?_
  refine AW.seq_k fun K7 h7 => ?_
  refine AW.seq_k fun K8 h8 => ?_
  all_goals refine AW.reg0 ?_
  all_goals iterate 2 (refine S.g rfl rfl fun K' k' => ?_; simp only [zz, reduceIte, Nat.reduceEqDiff, Nat.reduceAdd]; refine k' _ _ ?_; clear k' K')
  all_goals refine S.nil ?_
  all_goals simp only [ze, reduceIte, Nat.reduceEqDiff, Nat.reduceLT, Nat.reduceLeDiff, Nat.reduceAdd, reduceCtorEq, Nat.reduceMul]
  all_goals first | refine h8 _ _ ?_ | refine h7 _ _ ?_ | refine h6 _ _ ?_ | refine h5 _ _ ?_ | refine h4 _ _ ?_ | refine h3 _ _ ?_ | refine h2 _ _ ?_ | refine h1 _ _ ?_
  refine AW.cond (b := true) (by simp [ev]) (fun hc => ?_) (fun hc => by cases hc)
  refine AW.seq_k fun K9 h9 => ?_
  all_goals refine AW.reg0 ?_
  all_goals iterate 4 (refine S.g rfl rfl fun K' k' => ?_; simp only [zz, reduceIte, Nat.reduceEqDiff, Nat.reduceLT, Nat.reduceLeDiff, Nat.reduceAdd, reduceCtorEq, Nat.reduceMul, st9, cv3_54, hwu]; refine k' _ _ ?_; clear k' K')
  all_goals (refine S.g rfl rfl fun K' k' => ?_; simp only [zz, reduceIte, Nat.reduceEqDiff, Nat.reduceLT, Nat.reduceLeDiff, Nat.reduceAdd, reduceCtorEq, Nat.reduceMul, hwu]; refine (nat_spec g bs _ _ hs (by omega) hsz).to fun v σ2 hv => ?_; obtain ⟨rfl, hs1, hf1⟩ := hv <;> (refine k' _ _ ?_; clear k' K'))
  all_goals refine S.nil ?_
  all_goals simp only [ze, reduceIte, Nat.reduceEqDiff, Nat.reduceLT, Nat.reduceLeDiff, Nat.reduceAdd, reduceCtorEq, Nat.reduceMul, hwu]
  all_goals first | refine h9 _ _ ?_ | refine h8 _ _ ?_ | refine h7 _ _ ?_ | refine h6 _ _ ?_ | refine h5 _ _ ?_ | refine h4 _ _ ?_ | refine h3 _ _ ?_ | refine h2 _ _ ?_ | refine h1 _ _ ?_
  refine AW.seq_k fun K10 h10 => ?_
  all_goals refine AW.reg0 ?_
  all_goals iterate 4 (refine S.g rfl rfl fun K' k' => ?_; simp only [zz, reduceIte, Nat.reduceEqDiff, Nat.reduceLT, Nat.reduceLeDiff, Nat.reduceAdd, reduceCtorEq, Nat.reduceMul, cv9_48, sl48, el48, ok5, sz5, ag5, hel]; refine k' _ _ ?_; clear k' K')
  all_goals refine S.nil ?_
  all_goals simp only [ze, reduceIte, Nat.reduceEqDiff, Nat.reduceLT, Nat.reduceLeDiff, Nat.reduceAdd, reduceCtorEq, Nat.reduceMul, hel]
  all_goals first | refine h10 _ _ ?_ | refine h9 _ _ ?_ | refine h8 _ _ ?_ | refine h7 _ _ ?_ | refine h6 _ _ ?_ | refine h5 _ _ ?_ | refine h4 _ _ ?_ | refine h3 _ _ ?_ | refine h2 _ _ ?_ | refine h1 _ _ ?_
  refine AW.block ?_   -- 0
  refine AW.loop (fun m s σ3 => ∃ i, m = t.size - i ∧ i ≤ t.size ∧ s.t 0 = ptrV g ∧ s.t 5 = .c (.int .i64 0) ∧ s.t 38 = .sl (t.data.toList.map encU8) ∧ s.t 39 = .c (.int .i64 t.size) ∧ s.t 40 = .c (.int .i64 (i : Nat)) ∧
    Snk g (bs ++ natB t.size ++ (t.data.toList.take i).flatMap fun b => lowB b.toNat 8) σ3 ∧ Fr g σ1 σ3) t.size ?_ ?_
  · refine ⟨0, rfl, Nat.zero_le _, ?_⟩
    all_goals simp only [zs, reduceIte, Nat.reduceEqDiff, Nat.reduceLT, Nat.reduceLeDiff, Nat.reduceAdd, reduceCtorEq, Nat.reduceMul]
    exact ⟨rfl, rfl, by simpa using hs1, hf1⟩
  rintro m s σ3 ⟨i, hm, hi, e0, e5, e38, e39, e40, hsn, hfr⟩
  refine AW.seq_k fun K11 h11 => ?_
  all_goals refine AW.reg0 ?_
  all_goals (refine S.g rfl rfl fun K' k' => ?_; simp only [zz, reduceIte, Nat.reduceEqDiff, Nat.reduceAdd, e39, e40]; refine k' _ _ ?_; clear k' K')
  all_goals refine S.nil ?_
  all_goals simp only [ze, reduceIte, Nat.reduceEqDiff, Nat.reduceLT, Nat.reduceLeDiff, Nat.reduceAdd, reduceCtorEq, Nat.reduceMul, e39, e40]
  all_goals first | refine h11 _ _ ?_ | refine h10 _ _ ?_ | refine h9 _ _ ?_ | refine h8 _ _ ?_ | refine h7 _ _ ?_ | refine h6 _ _ ?_ | refine h5 _ _ ?_ | refine h4 _ _ ?_ | refine h3 _ _ ?_ | refine h2 _ _ ?_ | refine h1 _ _ ?_
  refine AW.seq_k fun K12 h12 => ?_
  refine AW.cond (b := decide (i < t.size)) (by simp [ev]) (fun hc => ?_) (fun hc => ?_)
  · refine AW.skip ?_
    all_goals simp only [zs, reduceIte, Nat.reduceEqDiff, Nat.reduceLT, Nat.reduceLeDiff, Nat.reduceAdd, reduceCtorEq, Nat.reduceMul]
    all_goals first | refine h12 _ _ ?_ | refine h11 _ _ ?_ | refine h10 _ _ ?_ | refine h9 _ _ ?_ | refine h8 _ _ ?_ | refine h7 _ _ ?_ | refine h6 _ _ ?_ | refine h5 _ _ ?_ | refine h4 _ _ ?_ | refine h3 _ _ ?_ | refine h2 _ _ ?_ | refine h1 _ _ ?_
    have hin := of_decide_eq_true hc
    obtain ⟨b, hb⟩ : ∃ b, t.data.toList[i]? = some b := ⟨_, List.getElem?_eq_getElem (by rw [hel]; exact hin)⟩
    have hbe : (t.data.toList.map encU8).getD i [] = encU8 b := by simp [List.getD, hb]
    have hb256 : b.toNat < 256 := b.toNat_lt
    have hwb : IntKind.u64.wrap (b.toNat : Int) = (b.toNat : Int) := wrap_u64 (by omega)
    have hwi : IntKind.i64.wrap ((i : Int) + 1) = ((i + 1 : Nat) : Int) := by rw [wrap_small _ (by omega) (by omega)]; rfl
    refine AW.seq_k fun K13 h13 => ?_
    refine AW.block ?_   -- 1
    refine AW.seq_k fun K14 h14 => ?_
    all_goals refine AW.reg0 ?_
    all_goals iterate 3 (refine S.g rfl rfl fun K' k' => ?_; simp only [zz, reduceIte, Nat.reduceEqDiff, Nat.reduceLT, Nat.reduceLeDiff, Nat.reduceAdd, reduceCtorEq, Nat.reduceMul, sl48, el48, ok5, sz5, ag5, e38, e40, hel, hbe, hin, encU8, List.length_singleton, List.getD_cons_zero]; refine k' _ _ ?_; clear k' K')
    all_goals refine S.nil ?_
    all_goals simp only [ze, reduceIte, Nat.reduceEqDiff, Nat.reduceLT, Nat.reduceLeDiff, Nat.reduceAdd, reduceCtorEq, Nat.reduceMul, e38, e40, hel, hbe, hin, encU8, List.length_singleton, List.getD_cons_zero]
    all_goals first | refine h14 _ _ ?_ | refine h13 _ _ ?_ | refine h12 _ _ ?_ | refine h11 _ _ ?_ | refine h10 _ _ ?_ | refine h9 _ _ ?_ | refine h8 _ _ ?_ | refine h7 _ _ ?_ | refine h6 _ _ ?_ | refine h5 _ _ ?_ | refine h4 _ _ ?_ | refine h3 _ _ ?_ | refine h2 _ _ ?_ | refine h1 _ _ ?_
    all_goals refine AW.reg0 ?_
    all_goals iterate 3 (refine S.g rfl rfl fun K' k' => ?_; simp only [zz, reduceIte, Nat.reduceEqDiff, Nat.reduceAdd, cv5_54, e0, hwb, okPt, wkPt]; refine k' _ _ ?_; clear k' K')
    all_goals (refine S.g rfl rfl fun K' k' => ?_; simp only [zz, reduceIte, Nat.reduceEqDiff, Nat.reduceLT, Nat.reduceLeDiff, Nat.reduceAdd, reduceCtorEq, Nat.reduceMul, e0, hwb, okPt, wkPt]; refine (all_spec g _ b.toNat 8 _ hsn (by simp only [List.length_append, natB_len, flat_len, List.length_take]; omega) (by omega) (by omega)).to fun v σ2 hv => ?_; obtain ⟨rfl, hs2, hf2⟩ := hv <;> (refine k' _ _ ?_; clear k' K'))
    all_goals refine S.nil ?_
    all_goals simp only [ze, reduceIte, Nat.reduceEqDiff, Nat.reduceLT, Nat.reduceLeDiff, Nat.reduceAdd, reduceCtorEq, Nat.reduceMul, e0, hwb, okPt, wkPt]
    all_goals first | refine h14 _ _ ?_ | refine h13 _ _ ?_ | refine h12 _ _ ?_ | refine h11 _ _ ?_ | refine h10 _ _ ?_ | refine h9 _ _ ?_ | refine h8 _ _ ?_ | refine h7 _ _ ?_ | refine h6 _ _ ?_ | refine h5 _ _ ?_ | refine h4 _ _ ?_ | refine h3 _ _ ?_ | refine h2 _ _ ?_ | refine h1 _ _ ?_
    all_goals refine AW.reg0 ?_
    all_goals iterate 2 (refine S.g rfl rfl fun K' k' => ?_; simp only [zz, reduceIte, Nat.reduceEqDiff, Nat.reduceAdd, e40, hwi]; refine k' _ _ ?_; clear k' K')
    all_goals refine S.nil ?_
    all_goals simp only [ze, reduceIte, Nat.reduceEqDiff, Nat.reduceLT, Nat.reduceLeDiff, Nat.reduceAdd, reduceCtorEq, Nat.reduceMul, e40, hwi]
    refine ⟨t.size - (i + 1), by omega, i + 1, rfl, by omega, e0, e5, e38, e39, rfl, ?_, hfr.trans hf2⟩
    rw [List.take_add_one, hb, List.flatMap_append, ← List.append_assoc]
    simpa using hs2
  · refine AW.exit ?_
    all_goals simp only [zs, reduceIte, Nat.reduceEqDiff, Nat.reduceLT, Nat.reduceLeDiff, Nat.reduceAdd, reduceCtorEq, Nat.reduceMul]
    all_goals first | refine h14 _ _ ?_ | refine h13 _ _ ?_ | refine h12 _ _ ?_ | refine h11 _ _ ?_ | refine h10 _ _ ?_ | refine h9 _ _ ?_ | refine h8 _ _ ?_ | refine h7 _ _ ?_ | refine h6 _ _ ?_ | refine h5 _ _ ?_ | refine h4 _ _ ?_ | refine h3 _ _ ?_ | refine h2 _ _ ?_ | refine h1 _ _ ?_
    have hin := of_decide_eq_false hc
    have hi2 : i = t.size := by omega
    subst hi2
    rw [List.take_of_length_le (by rw [hel]; omega), List.append_assoc] at hsn
    refine AW.seq_k fun K15 h15 => ?_
    all_goals refine AW.reg0 ?_
    all_goals iterate 2 (refine S.g rfl rfl fun K' k' => ?_; simp only [zz, reduceIte, Nat.reduceEqDiff, Nat.reduceAdd, e5]; refine k' _ _ ?_; clear k' K')
    all_goals refine S.nil ?_
    all_goals simp only [ze, reduceIte, Nat.reduceEqDiff, Nat.reduceLT, Nat.reduceLeDiff, Nat.reduceAdd, reduceCtorEq, Nat.reduceMul, e5]
    all_goals first | refine h15 _ _ ?_ | refine h14 _ _ ?_ | refine h13 _ _ ?_ | refine h12 _ _ ?_ | refine h11 _ _ ?_ | refine h10 _ _ ?_ | refine h9 _ _ ?_ | refine h8 _ _ ?_ | refine h7 _ _ ?_ | refine h6 _ _ ?_ | refine h5 _ _ ?_ | refine h4 _ _ ?_ | refine h3 _ _ ?_ | refine h2 _ _ ?_ | refine h1 _ _ ?_
    refine AW.ret ?_
    all_goals simp only [zs, reduceIte, Nat.reduceEqDiff, Nat.reduceLT, Nat.reduceLeDiff, Nat.reduceAdd, reduceCtorEq, Nat.reduceMul]
    exact ⟨hsn, hfr⟩
end Go.Abs.M
namespace Go.Abs.M
open Go Go.Abs Go.Proofs
set_option maxRecDepth 20000
set_option linter.unusedSimpArgs false
set_option linter.unusedVariables false

theorem clone_b (l : List Nat) (k : Nat) (σ : Hp) (hl : l ≠ []) (hk : σ.gr k = some ((5, 1), l.map encB)) (hm : l.length < 1099511627776) :
    ACalls Try.prog 93 [.gl k] σ (fun v σ' => v = .sl (l.map encB) ∧ σ' = σ) := by
  refine ACalls.intro Try.call93 Try.func93 rfl Try.ntmps93 Try.results93 (by simp) ?_
  have hne : ¬ l = [] := hl
  refine AW.seq_k fun K1 h1 => ?_
  all_goals refine AW.reg0 ?_
  all_goals (refine S.g rfl rfl fun K' k' => ?_; simp only [zz, reduceIte, Nat.reduceEqDiff, Nat.reduceAdd]; refine k' _ _ ?_; clear k' K')
  all_goals refine S.nil ?_
  all_goals simp only [ze, reduceIte, Nat.reduceEqDiff, Nat.reduceLT, Nat.reduceLeDiff, Nat.reduceAdd, reduceCtorEq, Nat.reduceMul]
  all_goals first | refine h1 _ _ ?_
  refine AW.seq_k fun K2 h2 => ?_
  refine AW.seq_k fun K3 h3 => ?_
  all_goals refine AW.reg0 ?_
  all_goals (refine S.g rfl rfl fun K' k' => ?_; simp only [zz, reduceIte, Nat.reduceEqDiff, Nat.reduceAdd, hk]; refine k' _ _ ?_; clear k' K')
  all_goals (refine S.g rfl rfl fun K' k' => ?_; simp only [zz, reduceIte, Nat.reduceEqDiff, Nat.reduceLT, Nat.reduceLeDiff, Nat.reduceAdd, reduceCtorEq, Nat.reduceMul, sl48, hk]; refine ⟨fun _ => ?_, fun he => absurd he hne⟩ <;> (refine k' _ _ ?_; clear k' K'))
  all_goals refine S.nil ?_
  all_goals simp only [ze, reduceIte, Nat.reduceEqDiff, Nat.reduceLT, Nat.reduceLeDiff, Nat.reduceAdd, reduceCtorEq, Nat.reduceMul, hk]
  all_goals first | refine h3 _ _ ?_ | refine h2 _ _ ?_ | refine h1 _ _ ?_
  refine AW.cond (b := false) (by simp [ev]) (fun hc => by cases hc) (fun hc => ?_)
  refine AW.skip ?_
  all_goals simp only [zs, reduceIte, Nat.reduceEqDiff, Nat.reduceLT, Nat.reduceLeDiff, Nat.reduceAdd, reduceCtorEq, Nat.reduceMul]
  all_goals first | refine h3 _ _ ?_ | refine h2 _ _ ?_ | refine h1 _ _ ?_
  refine AW.seq_k fun K4 h4 => ?_
  all_goals refine AW.region (T := { own := fun d => d == 5 }) (fun _ _ h => by cases h) rfl ?_
  all_goals (refine S.g rfl rfl fun K' k' => ?_; simp only [zb, reduceIte, Nat.reduceEqDiff, Nat.reduceLT, Nat.reduceLeDiff, Nat.reduceAdd, reduceCtorEq, Nat.reduceMul, sl48, el48, ok5, sz5, ag5, zt5, by5, hk]; intro k0 hk0 <;> (refine k' _ _ ?_; clear k' K'))
  all_goals (refine S.g rfl rfl fun K' k' => ?_; simp only [zz, reduceIte, Nat.reduceEqDiff, Nat.reduceAdd, hk]; refine k' _ _ ?_; clear k' K')
  all_goals (refine S.g rfl rfl fun K' k' => ?_; simp only [zz, reduceIte, Nat.reduceEqDiff, Nat.reduceLT, Nat.reduceLeDiff, Nat.reduceAdd, reduceCtorEq, Nat.reduceMul, sl48, el48, ok5, sz5, ag5, zt5, by5, hk]; have hkk : ¬ k = k0 := (fun e => by rw [e, hk0] at hk; cases hk); simp only [zz, hkk, hk, reduceIte, if_false, Hp.setGr_gr, List.nil_append]; refine ⟨fun e he => by obtain ⟨x, _, rfl⟩ := List.mem_map.1 he; rfl, by unfold maxLen; omega, by unfold reach; omega, fun k2 hk2 => ?_⟩ <;> (refine k' _ _ ?_; clear k' K'))
  all_goals (refine S.g rfl rfl fun K' k' => ?_; simp only [zz, reduceIte, Nat.reduceEqDiff, Nat.reduceAdd, hk]; refine k' _ _ ?_; clear k' K')
  all_goals refine S.nil ?_
  all_goals simp only [ze, reduceIte, Nat.reduceEqDiff, Nat.reduceLT, Nat.reduceLeDiff, Nat.reduceAdd, reduceCtorEq, Nat.reduceMul, hk]
  all_goals first | refine h4 _ _ ?_ | refine h3 _ _ ?_ | refine h2 _ _ ?_ | refine h1 _ _ ?_
  refine AW.freeze (k := k2) (T := (5, 1)) (es := l.map encB) (by simp only [Hp.setGr_gr, if_true]) (AW.ret ?_)
  rw [Hp.setGr_setGr, Hp.setGr_none hk2]
  all_goals simp only [zs, reduceIte, Nat.reduceEqDiff, Nat.reduceLT, Nat.reduceLeDiff, Nat.reduceAdd, reduceCtorEq, Nat.reduceMul, fzV, fz1, St.fz_t, St.fz_l]
  exact Hp.setGr_none hk0
theorem packB_ne {bs : List Bool} (h : bs ≠ []) : packB bs ≠ [] := fun e => by
  have h1 := packB_len bs
  rw [e] at h1
  have : bs.length ≠ 0 := fun h0 => h (List.eq_nil_of_length_eq_zero h0)
  simp at h1; omega
theorem Out_spec (g : Nat) (bs : List Bool) (σ : Hp) (hs : Snk g bs σ) (hne : bs ≠ []) (hl : bs.length < 1099511627776) : ACalls Try.prog 40 [ptrV g] σ (fun v σ' => v = .sl ((packB bs).map encB) ∧ σ' = σ) := by
  obtain ⟨k, ho, hk⟩ : ∃ k, σ.obj g = some (skC bs.length (.gl k)) ∧ σ.gr k = some ((5, 1), (packB bs).map encB) := by
    rcases hs with ⟨h, _⟩ | h
    · exact absurd h hne
    · exact h
  unfold skC at ho
  refine ACalls.intro Try.call40 Try.func40 rfl Try.ntmps40 Try.results40 (by simp) ?_
  refine AW.seq_k fun K1 h1 => ?_
  all_goals refine AW.reg0 ?_
  all_goals (refine S.g rfl rfl fun K' k' => ?_; simp only [zz, reduceIte, Nat.reduceEqDiff, Nat.reduceAdd]; refine k' _ _ ?_; clear k' K')
  all_goals refine S.nil ?_
  all_goals simp only [ze, reduceIte, Nat.reduceEqDiff, Nat.reduceLT, Nat.reduceLeDiff, Nat.reduceAdd, reduceCtorEq, Nat.reduceMul]
  all_goals first | refine h1 _ _ ?_
  refine AW.seq_k fun K2 h2 => ?_
  refine AW.seq_k fun K3 h3 => ?_
  all_goals refine AW.reg0 ?_
  all_goals iterate 2 (refine S.g rfl rfl fun K' k' => ?_; simp only [zz, reduceIte, Nat.reduceEqDiff, Nat.reduceAdd, un51, ptrV, un51, TypeDesc.pointer.injEq]; refine k' _ _ ?_; clear k' K')
  all_goals refine S.nil ?_
  all_goals simp only [ze, reduceIte, Nat.reduceEqDiff, Nat.reduceLT, Nat.reduceLeDiff, Nat.reduceAdd, reduceCtorEq, Nat.reduceMul, ptrV, un51, TypeDesc.pointer.injEq]
  all_goals first | refine h3 _ _ ?_ | refine h2 _ _ ?_ | refine h1 _ _ ?_
  refine AW.cond (b := false) (by simp [ev]) (fun hc => by cases hc) (fun hc => ?_)
  refine AW.skip ?_
  all_goals simp only [zs, reduceIte, Nat.reduceEqDiff, Nat.reduceLT, Nat.reduceLeDiff, Nat.reduceAdd, reduceCtorEq, Nat.reduceMul]
  all_goals first | refine h3 _ _ ?_ | refine h2 _ _ ?_ | refine h1 _ _ ?_
  refine AW.seq_k fun K4 h4 => ?_
  all_goals refine AW.reg0 ?_
  all_goals iterate 4 (refine S.g rfl rfl fun K' k' => ?_; simp only [zz, reduceIte, Nat.reduceEqDiff, Nat.reduceLT, Nat.reduceLeDiff, Nat.reduceAdd, reduceCtorEq, Nat.reduceMul, of114_1, ok48, sz48, ag48, ho, map3, List.getD_cons_succ, List.getD_cons_zero]; refine k' _ _ ?_; clear k' K')
  all_goals (refine S.g rfl rfl fun K' k' => ?_; simp only [zz, reduceIte, Nat.reduceEqDiff, Nat.reduceLT, Nat.reduceLeDiff, Nat.reduceAdd, reduceCtorEq, Nat.reduceMul, ho, map3, List.getD_cons_succ, List.getD_cons_zero]; refine (clone_b _ _ _ (packB_ne hne) hk (by rw [packB_len]; omega)).to fun v σ1 hv => ?_; obtain ⟨rfl, rfl⟩ := hv <;> (refine k' _ _ ?_; clear k' K'))
  all_goals (refine S.g rfl rfl fun K' k' => ?_; simp only [zz, reduceIte, Nat.reduceEqDiff, Nat.reduceAdd, ho, map3, List.getD_cons_succ, List.getD_cons_zero]; refine k' _ _ ?_; clear k' K')
  all_goals refine S.nil ?_
  all_goals simp only [ze, reduceIte, Nat.reduceEqDiff, Nat.reduceLT, Nat.reduceLeDiff, Nat.reduceAdd, reduceCtorEq, Nat.reduceMul, ho, map3, List.getD_cons_succ, List.getD_cons_zero]
  all_goals first | refine h4 _ _ ?_ | refine h3 _ _ ?_ | refine h2 _ _ ?_ | refine h1 _ _ ?_
  refine AW.ret ?_
  all_goals simp only [zs, reduceIte, Nat.reduceEqDiff, Nat.reduceLT, Nat.reduceLeDiff, Nat.reduceAdd, reduceCtorEq, Nat.reduceMul]
theorem encB_u8 {l : List Nat} (h : ∀ x ∈ l, x < 256) : l.map encB = (l.map UInt8.ofNat).map encU8 := by
  rw [List.map_map]
  refine List.map_congr_left fun x hx => ?_
  have : (UInt8.ofNat x).toNat = x := by simp [UInt8.toNat_ofNat']; exact h x hx
  simp [encB, encU8, this]
theorem equal_b (l : List Nat) (h : ∀ x ∈ l, x < 256) : PCalls Try.prog 38 [.sl (l.map encB), .sl (l.map encB)] (fun v => v = .c (.bool true)) := by
  refine PCalls.intro Try.call38 Try.func38 rfl Try.ntmps38 Try.results38 (by simp) ?_
  have he := encB_u8 h
  refine AW.seq_k fun K1 h1 => ?_
  all_goals refine AW.reg0 ?_
  all_goals (refine S.g rfl rfl fun K' k' => ?_; simp only [zz, reduceIte, Nat.reduceEqDiff, Nat.reduceAdd]; refine k' _ _ ?_; clear k' K')
  all_goals refine S.nil ?_
  all_goals simp only [ze, reduceIte, Nat.reduceEqDiff, Nat.reduceLT, Nat.reduceLeDiff, Nat.reduceAdd, reduceCtorEq, Nat.reduceMul]
  all_goals first | refine h1 _ _ ?_
  refine AW.seq_k fun K2 h2 => ?_
  all_goals refine AW.reg0 ?_
  all_goals (refine S.g rfl rfl fun K' k' => ?_; simp only [zz, reduceIte, Nat.reduceEqDiff, Nat.reduceAdd]; refine k' _ _ ?_; clear k' K')
  all_goals (refine S.g rfl rfl fun K' k' => ?_; simp only [zz, reduceIte, Nat.reduceEqDiff, Nat.reduceLT, Nat.reduceLeDiff, Nat.reduceAdd, reduceCtorEq, Nat.reduceMul, cv48_9]; refine ⟨_, he, ?_⟩ <;> (refine k' _ _ ?_; clear k' K'))
  all_goals (refine S.g rfl rfl fun K' k' => ?_; simp only [zz, reduceIte, Nat.reduceEqDiff, Nat.reduceAdd]; refine k' _ _ ?_; clear k' K')
  all_goals (refine S.g rfl rfl fun K' k' => ?_; simp only [zz, reduceIte, Nat.reduceEqDiff, Nat.reduceLT, Nat.reduceLeDiff, Nat.reduceAdd, reduceCtorEq, Nat.reduceMul, cv48_9]; refine ⟨_, he, ?_⟩ <;> (refine k' _ _ ?_; clear k' K'))
  all_goals iterate 2 (refine S.g rfl rfl fun K' k' => ?_; simp only [zz, reduceIte, Nat.reduceEqDiff, Nat.reduceAdd]; refine k' _ _ ?_; clear k' K')
  all_goals refine S.nil ?_
  all_goals simp only [ze, reduceIte, Nat.reduceEqDiff, Nat.reduceLT, Nat.reduceLeDiff, Nat.reduceAdd, reduceCtorEq, Nat.reduceMul]
  all_goals first | refine h2 _ _ ?_ | refine h1 _ _ ?_
  refine AW.ret ?_
  all_goals simp only [zs, reduceIte, Nat.reduceEqDiff, Nat.reduceLT, Nat.reduceLeDiff, Nat.reduceAdd, reduceCtorEq, Nat.reduceMul]
end Go.Abs.M
