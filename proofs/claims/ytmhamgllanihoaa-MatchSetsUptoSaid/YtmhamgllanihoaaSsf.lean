import Derived.Test.YtmhamgllanihoaaSse
namespace Go.Abs
open Go
section
variable {P : Program} {σ : Hp} {cx : Cx} {w : World}
theorem delObj_sub (σ : Hp) (g : Nat) : (∀ x c, (σ.setObj g none).obj x = some c → σ.obj x = some c) ∧ (∀ k x, (σ.setObj g none).gr k = some x → σ.gr k = some x) :=
  ⟨fun x c h => by
    simp only [Hp.setObj] at h
    by_cases e : x = g
    · simp [e] at h
    · simpa [e] using h, fun _ _ h => h⟩
/-- An object, from now on written by nobody. -/
theorem HR.hush (h : HR cx σ w) {g : Nat} {cells : List V} (hg : σ.obj g = some cells) (hm : isMap cells = false) (_c : cells ≠ []) :
    HR (cx.addI g) (σ.setObj g none) w ∧ VR w (cx.addI g) (.ip [cells] 0 0) (.pointer (some ⟨g, 0, none⟩)) := by
  obtain ⟨o, ho, hor⟩ := h.obj g cells hg
  obtain ⟨T', cs, rfl, hvs⟩ := hor.row hm
  have sub : HR cx (σ.setObj g none) w := h.sub (delObj_sub σ g).1 (delObj_sub σ g).2
  have hno : ¬ (σ.setObj g none).own cx g := by
    rintro (⟨c, hc⟩ | ⟨j, x, hj, hb⟩)
    · simp [Hp.setObj] at hc
    · exact h.mix j x g cells hj hg hb
  refine ⟨sub.keep (cx.le_addI g) (fun _ => False) (fun _ h => h.elim) (fun _ h => h.elim) (fun g' (hg' : cx.I g' ∨ g' = g) ho => ?_) (fun g' (hg' : cx.I g' ∨ g' = g) => ?_) (fun _ _ _ => rfl), ?_⟩
  · rcases hg' with h1 | h1
    · exact sub.apart g' ho h1
    · exact hno (h1 ▸ ho)
  · rcases hg' with h1 | h1
    · exact h.ilt g' h1
    · rw [h1]; exact lt_of_block ho
  · have hvk := hvs.keep (w' := w) (cx' := cx.addI g) (fun _ _ => rfl) (cx.le_addI g)
    have := VR.ip (w := w) (cx := cx.addI g) (es := [cells]) (sz := cells.length) (b := g) (o := 0) (i := 0) (off := 0) (fun i j => cs.getD j undef) (.inr rfl) (by simp)
      (fun i e he => by
        rcases i with _ | i
        · simp at he; rw [← he]
        · simp at he)
      (fun i j hi hj => by
        have h0 : i = 0 := by simp at hi; exact hi
        subst h0
        have hjl : j < cs.length := by rw [← hvs.1]; exact hj
        simp [World.cell?, ho, List.getD, hjl])
      (fun i e j v he hv => by
        rcases i with _ | i
        · simp at he; subst he
          have hjl : j < cs.length := by rw [← hvs.1]; exact (List.getElem?_eq_some_iff.1 hv).1
          exact hvk.2.2 j v _ hv (by simp [List.getD, hjl])
        · simp at he)
      (fun i j hi hj => by
        have hjl : j < cs.length := by rw [← hvs.1]; exact hj
        exact hvs.2.1 _ (by simp only [List.getD, List.getElem?_eq_getElem hjl]; exact List.getElem_mem _))
    simpa using this
/-- A call whose result is a function over a variable of the call's own that nobody writes any more. -/
theorem ACalls.sealF {f : FuncId} {args : List V} {R R' : V → Hp → Prop} (h : ACalls P f args σ R)
    (hr : ∀ v σ', R v σ' → ∃ g cells F, v = .fn F [] [.c (.pointer (some ⟨g, 0, none⟩))] ∧ σ'.obj g = some cells ∧ isMap cells = false ∧ cells ≠ [] ∧ R' (.fn F [] [.ip [cells] 0 0]) (σ'.setObj g none)) : ACalls P f args σ R' := by
  refine ⟨h.1, fun cx w xs hH ha => (h.2 cx w xs hH ha).mono fun e w' ⟨v, r, cx', σ', h1, h2, h3, h4⟩ => ?_⟩
  obtain ⟨g, cells, F, rfl, hg, hm, hc, hR⟩ := hr v σ' h4
  obtain ⟨hH2, hip⟩ := h3.heap.hush hg hm hc
  have hsub : ∀ g', (σ'.setObj g none).own (cx'.addI g) g' → σ'.own cx' g' := fun g' hg' => by
    rcases hg' with ⟨c, hc⟩ | ⟨j, x, hj, hb⟩
    · exact .inl ⟨c, (delObj_sub σ' g).1 _ _ hc⟩
    · exact .inr ⟨j, x, hj, hb⟩
  have hfn : VR w' (cx'.addI g) (.fn F [] [.ip [cells] 0 0]) r := by
    cases h2 with
    | @fn _ _ _ xs1 ys1 hn h5 hl h6 =>
      obtain rfl : xs1 = [] := List.eq_nil_of_length_eq_zero hn.symm
      obtain ⟨y, rfl⟩ : ∃ y, ys1 = [y] := List.length_eq_one_iff.1 hl.symm
      have hy := h6 0 _ _ rfl rfl
      obtain rfl : y = .pointer (some ⟨g, 0, none⟩) := by cases hy; rfl
      refine .fn rfl (fun i v x hv => by cases hv) rfl (fun i v x hv hx => ?_)
      rcases i with _ | i
      · simp at hv hx; subst hv; subst hx; exact hip
      · simp at hv
  refine ⟨_, r, _, _, h1, hfn, ⟨hH2, ⟨h3.ext.os, h3.ext.tape, h3.ext.output, h3.ext.size, h3.ext.block, h3.ext.le.trans (cx'.le_addI g), fun g' (hg' : cx'.I g' ∨ g' = g) => ?_, fun g' hg' => h3.ext.fnew g' (hsub g' hg')⟩, fun k x hk => h3.gnew k x hk, fun g' x hx => h3.onew g' x ((delObj_sub σ' g).1 _ _ hx)⟩, hR⟩
  rcases hg' with hg' | rfl
  · exact h3.ext.inew g' hg'
  · rcases h3.ext.fnew g' (.inl ⟨_, hg⟩) with h | h
    · exact .inr (.inl h)
    · exact .inr (.inr h)
end
end Go.Abs
namespace Go.Abs
open Go
section
variable {P : Program} {σ : Hp}
/-- Two constants, told of as one. -/
theorem tup2_const {u v : Value} {w w' : World} {cx cx' : Cx} {x : Value} (h : VR w cx (.tup [.c u, .c v]) x) : VR w' cx' (.tup [.c u, .c v]) x := by
  cases h with
  | tup hn h =>
    rename_i xs
    refine .tup hn fun i y x hy hx => ?_
    have := h i y x hy hx
    rcases i with _ | _ | i
    · simp at hy; subst hy; cases this; exact .c _
    · simp at hy; subst hy; cases this; exact .c _
    · simp at hy
/-- A call of a reader of a growing list, whose result holds none. -/
theorem PCalls.lendT {f : FuncId} {args : List V} {R : V → Prop} {k : Nat} {T : TypeId × Nat} {es : List (List V)} (h : PCalls P f (args.map (fzV k es)) R) (hk : σ.gr k = some (T, es)) (hR : ∀ v, R v → ∃ a b, v = .tup [.c a, .c b]) :
    ACalls P f args σ (fun v σ' => σ' = σ ∧ R v) := by
  refine ⟨h.1, fun cx w xs hH ha => ?_⟩
  obtain ⟨cx1, hle, hL, hI, hH1, hv1⟩ := hH.freeze hk
  have ha1 : VAs w cx1 (args.map (fzV k es)) xs := ⟨by simpa using ha.1, fun i v x hi hx => by
    simp only [List.getElem?_map, Option.map_eq_some_iff] at hi
    obtain ⟨u, hu, rfl⟩ := hi
    exact fzV_VR hle hv1 (ha.2 i u x hu hx)⟩
  refine (h.2 cx1 w xs (hH1.sub (fun _ _ h => by cases h) (fun _ _ h => by cases h)) ha1).mono fun e w' ⟨v, r, cx2, σ2, h1, h2, h3, h4, h5⟩ => ?_
  subst h4
  obtain ⟨u, u', rfl⟩ := hR v h5
  have hb : ∀ g, g < w.heap.size → w'.heap[g]? = w.heap[g]? := fun g hg => h3.ext.block g hg own_empty
  exact ⟨_, r, cx, σ, h1, tup2_const h2, ⟨hH.new (.refl _) (fun g hg => .inl hg) h3.ext.size hb, ⟨h3.ext.os, h3.ext.tape, h3.ext.output, h3.ext.size, fun g hg _ => hb g hg, .refl _, fun g hg => .inl hg, fun g hg => .inl hg⟩, fun _ x hk => .inl ⟨x, hk⟩, fun _ x hk => .inl ⟨x, hk⟩⟩, rfl, h5⟩
end
end Go.Abs
namespace Go.Abs.M
open Go Go.Abs Go.Proofs
set_option linter.unusedSimpArgs false
/-- A number in n bits. -/
def lowB (u : Nat) : Nat → List Bool
  | 0 => []
  | n + 1 => (u / 2 ^ n % 2 == 1) :: lowB u n
theorem lowB_len (u : Nat) : ∀ n, (lowB u n).length = n
  | 0 => rfl
  | n + 1 => by rw [lowB, List.length_cons, lowB_len u n]
/-- The i-th bit is put to bytes that have place for it. -/
def putB (l : List Nat) (i : Nat) (b : Bool) : List Nat := if b then l.modify (i / 8) (· + 128 / 2 ^ (i % 8)) else l
def putsB : List Nat → Nat → List Bool → List Nat
  | l, _, [] => l
  | l, i, b :: bs => putsB (putB l i b) (i + 1) bs
def zerosB (n : Nat) : List Nat := List.replicate n 0
def packB (bs : List Bool) : List Nat := putsB (zerosB ((bs.length + 7) / 8)) 0 bs
end Go.Abs.M
namespace Go.Abs.M
open Go Go.Abs Go.Proofs
set_option maxRecDepth 20000
set_option linter.unusedSimpArgs false
set_option linter.unusedVariables false
def ptrV (g : Nat) : V := .c (.pointer (some ⟨g, 0, none⟩))
def skC (n : Nat) (v : V) : List V := [.c (.bool true), v, .c (.int .i64 n)]
/-- The list that a sink holds. -/
def skN (g : Nat) (σ : Hp) : Option Nat := match σ.obj g with | some [_, .gl k, _] => some k | _ => none
/-- A sink of some bits. -/
def Snk (g : Nat) (bs : List Bool) (σ : Hp) : Prop := (bs = [] ∧ σ.obj g = some (skC 0 (.c (.slice none 0 0)))) ∨ ∃ k, σ.obj g = some (skC bs.length (.gl k)) ∧ σ.gr k = some ((5, 1), (packB bs).map encB)
/-- What else there is stays. -/
structure Fr (g : Nat) (σ σ' : Hp) : Prop where
  obj : ∀ x c, x ≠ g → σ.obj x = some c → σ'.obj x = some c
  gr : ∀ k x, σ.gr k = some x → skN g σ ≠ some k → σ'.gr k = some x ∧ skN g σ' ≠ some k
theorem Fr.refl (g : Nat) (σ : Hp) : Fr g σ σ := ⟨fun _ _ _ h => h, fun _ _ h k => ⟨h, k⟩⟩
theorem Fr.trans {g : Nat} {a b c : Hp} (h : Fr g a b) (k : Fr g b c) : Fr g a c :=
  ⟨fun x d hx hd => k.obj x d hx (h.obj x d hx hd), fun n x hx hn => by
    obtain ⟨h1, h2⟩ := h.gr n x hx hn
    exact k.gr n x h1 h2⟩
/-- The next bit's place. -/
def InvB (l : List Nat) (i : Nat) : Prop := ∀ j x, l[j]? = some x → x < 256 ∧ (j = i / 8 → x % 2 ^ (8 - i % 8) = 0) ∧ (i / 8 < j → x = 0)
theorem byte_put : ∀ r : Nat, r < 8 → ∀ x : Nat, x < 256 → x % 2 ^ (8 - r) = 0 → x + 128 / 2 ^ r < 256 ∧ (x + 128 / 2 ^ r) % 2 ^ (7 - r) = 0 ∧ x % 2 ^ (7 - r) = 0 ∧ (BitVec.ofInt 8 (x : Int) ||| BitVec.ofInt 8 ((128 / 2 ^ r : Nat) : Int)).toNat = x + 128 / 2 ^ r := by decide +kernel
theorem InvB.put {l : List Nat} {i : Nat} (h : InvB l i) (b : Bool) : InvB (putB l i b) (i + 1) := by
  intro j x hx
  have key : ∀ y, l[j]? = some y → (x = y ∨ (j = i / 8 ∧ x = y + 128 / 2 ^ (i % 8))) → x < 256 ∧ (j = (i + 1) / 8 → x % 2 ^ (8 - (i + 1) % 8) = 0) ∧ ((i + 1) / 8 < j → x = 0) := fun y hy hxy => by
    obtain ⟨h1, h2, h3⟩ := h j y hy
    by_cases hj : j = i / 8
    · obtain ⟨k1, k2, k3, _⟩ := byte_put (i % 8) (Nat.mod_lt _ (by omega)) y h1 (h2 hj)
      have hp : x % 2 ^ (7 - i % 8) = 0 ∧ x < 256 := by
        rcases hxy with rfl | ⟨_, rfl⟩
        · exact ⟨k3, h1⟩
        · exact ⟨k2, k1⟩
      refine ⟨hp.2, fun e => ?_, fun e => by omega⟩
      rw [show 8 - (i + 1) % 8 = 7 - i % 8 by omega]; exact hp.1
    · have hxy : x = y := by rcases hxy with h | h; exact h; exact absurd h.1 hj
      subst hxy
      refine ⟨h1, fun e => ?_, fun e => h3 (by omega)⟩
      rw [h3 (by omega)]; exact Nat.zero_mod _
  unfold putB at hx
  split at hx
  · rw [List.getElem?_modify] at hx
    cases hl : l[j]? with
    | none => rw [hl] at hx; cases hx
    | some y =>
      rw [hl] at hx
      have hx : (if i / 8 = j then y + 128 / 2 ^ (i % 8) else y) = x := by simpa using hx
      refine key y hl ?_
      split at hx
      · rename_i e; exact .inr ⟨e.symm, hx.symm⟩
      · exact .inl hx.symm
  · exact key x hx (.inl rfl)
end Go.Abs.M
namespace Go.Abs.M
open Go Go.Abs Go.Proofs
set_option maxRecDepth 20000
set_option linter.unusedSimpArgs false
set_option linter.unusedVariables false
theorem Fr.grow {g : Nat} {σ : Hp} {ok : Option Nat} {k2 n : Nat} {x : (TypeId × Nat) × List (List V)} (ho : skN g σ = ok) (hk2 : (σ.delO ok).gr k2 = none) : Fr g σ (((σ.delO ok).setGr k2 (some x)).setObj g (some (skC n (.gl k2)))) := by
  refine ⟨fun y c hy hc => ?_, fun k y hk hn => ?_⟩
  · cases ok <;> simp [Hp.delO, hy, hc]
  · have hd : (σ.delO ok).gr k = some y := by
      cases ok with
      | none => exact hk
      | some q =>
        have : k ≠ q := fun e => hn (by rw [ho, e])
        simp [Hp.delO, this, hk]
    have hne : k ≠ k2 := fun e => by rw [e, hk2] at hd; cases hd
    refine ⟨by simp [hne, hd], ?_⟩
    simp [skN, skC]
    exact fun e => hne e.symm
end Go.Abs.M
namespace Go.Abs.M
open Go Go.Abs Go.Proofs
set_option maxRecDepth 20000
set_option linter.unusedSimpArgs false
set_option linter.unusedVariables false
theorem wrap_u64 {n : Nat} (h : n < 18446744073709551616) : IntKind.u64.wrap (n : Int) = n := by
  unfold IntKind.wrap
  simp [IntKind.signed, IntKind.bits]
  omega
theorem shr64 (u k : Nat) (h : k ≤ 64) : Int.fdiv (u : Int) ((2 : Int) ^ min k IntKind.u64.bits) = ((u / 2 ^ k : Nat) : Int) := by
  rw [show min k IntKind.u64.bits = k from Nat.min_eq_left h]
  rw [show ((2 : Int) ^ k) = ((2 ^ k : Nat) : Int) by simp]
  exact (Int.ofNat_fdiv u (2 ^ k)).symm
end Go.Abs.M
namespace Go.Abs.M
open Go Go.Abs Go.Proofs
set_option maxRecDepth 20000
set_option linter.unusedSimpArgs false
set_option linter.unusedVariables false
theorem Snk.obj {g : Nat} {bs : List Bool} {σ : Hp} (h : Snk g bs σ) : ∃ v, σ.obj g = some [.c (.bool true), v, .c (.int .i64 (bs.length : Nat))] := by
  rcases h with ⟨rfl, h⟩ | ⟨k, h, _⟩
  · exact ⟨_, h⟩
  · exact ⟨_, h⟩
end Go.Abs.M
namespace Go.Abs.M
open Go Go.Abs Go.Proofs
set_option maxRecDepth 20000
set_option linter.unusedSimpArgs false
set_option linter.unusedVariables false
theorem flat_len (l : List UInt8) : (l.flatMap fun b => lowB b.toNat 8).length = 8 * l.length := by
  induction l with
  | nil => rfl
  | cons b l ih => rw [List.flatMap_cons, List.length_append, ih, lowB_len, List.length_cons]; omega
end Go.Abs.M
namespace Go.Abs.M
open Go Go.Abs Go.Proofs
set_option maxRecDepth 20000
set_option linter.unusedSimpArgs false
set_option linter.unusedVariables false
theorem Snk.other {g o : Nat} {bs : List Bool} {σ : Hp} {x : Option (List V)} (h : Snk g bs σ) (ho : σ.obj o = none) : Snk g bs (σ.setObj o x) := by
  have hne : g ≠ o := fun e => by
    obtain ⟨v, hv⟩ := h.obj
    rw [e, ho] at hv; cases hv
  rcases h with ⟨h1, h2⟩ | ⟨k, h1, h2⟩
  · exact .inl ⟨h1, by simp [hne, h2]⟩
  · exact .inr ⟨k, by simp [hne, h1], by simp [h2]⟩
theorem Fr.other {g o : Nat} {σ : Hp} {x : Option (List V)} (ho : σ.obj o = none) (hg : g ≠ o) : Fr g σ (σ.setObj o x) := by
  refine ⟨fun y c hy hc => ?_, fun k y hk hn => ⟨by simp [hk], ?_⟩⟩
  · have : y ≠ o := fun e => by rw [e, ho] at hc; cases hc
    simp [this, hc]
  · unfold skN at hn ⊢
    simpa [hg] using hn
end Go.Abs.M
namespace Go.Abs.M
open Go Go.Abs Go.Proofs
set_option maxRecDepth 20000
set_option linter.unusedSimpArgs false
set_option linter.unusedVariables false
theorem Fr.at {g o : Nat} {σ σ' : Hp} {c : List V} (h : Fr g σ σ') (hne : o ≠ g) (hc : σ.obj o = some c) : σ'.obj o = some c := h.obj o c hne hc
end Go.Abs.M
namespace Go.Abs.M
open Go Go.Abs Go.Proofs
set_option maxRecDepth 20000
set_option linter.unusedSimpArgs false
set_option linter.unusedVariables false
theorem Fr.new {g o : Nat} {σ σ3 : Hp} {x : Option (List V)} (ho : σ.obj o = none) (hg : g ≠ o) (hgo : ∃ c, σ.obj g = some c) (hn : skN o (σ.setObj o x) = none) (hf : Fr o (σ.setObj o x) σ3) : Fr g σ σ3 := by
  refine ⟨fun y c hy hc => ?_, fun k y hk hnk => ?_⟩
  · have hyo : y ≠ o := fun e => by rw [e, ho] at hc; cases hc
    exact hf.obj y c hyo (by simp [hyo, hc])
  · obtain ⟨h1, h2⟩ := hf.gr k y (by simp [hk]) (by rw [hn]; exact fun e => by cases e)
    refine ⟨h1, ?_⟩
    obtain ⟨c, hc⟩ := hgo
    have : σ3.obj g = some c := hf.obj g c hg (by simp [hg, hc])
    unfold skN at hnk ⊢
    rw [hc] at hnk
    rw [this]; exact hnk
theorem Snk.ne {g o : Nat} {bs : List Bool} {σ : Hp} (h : Snk g bs σ) (ho : σ.obj o = none) : g ≠ o := fun e => by
  obtain ⟨v, hv⟩ := h.obj
  rw [e, ho] at hv; cases hv
end Go.Abs.M
namespace Go.Abs.M
open Go Go.Abs Go.Proofs
set_option maxRecDepth 20000
set_option linter.unusedSimpArgs false
set_option linter.unusedVariables false
def encT (b : Bool) : List V := [.c (.bool b)]
/-- A list of flags of the call's own. -/
def Own (bs : List Bool) (σ : Hp) (v : V) (σ' : Hp) : Prop := ∃ k, v = .gl k ∧ σ.gr k = none ∧ σ' = σ.setGr k (some ((4, 1), bs.map encT))
def Frz (bs : List Bool) (σ : Hp) (v : V) (σ' : Hp) : Prop := v = .sl (bs.map encT) ∧ σ' = σ
theorem Own.frz {f : FuncId} {args : List V} {bs : List Bool} {σ : Hp} (h : ACalls Try.prog f args σ (Own bs σ)) : ACalls Try.prog f args σ (Frz bs σ) :=
  h.freeze fun v σ' ⟨k, h1, h2, h3⟩ => ⟨k, (4, 1), bs.map encT, h1, by rw [h3]; simp, rfl, by rw [h3, Hp.setGr_setGr, Hp.setGr_none h2]⟩
end Go.Abs.M
namespace Go.Abs.M
open Go Go.Abs Go.Proofs
set_option maxRecDepth 20000
set_option linter.unusedSimpArgs false
set_option linter.unusedVariables false
theorem map2 (a b : V) : isMap [a, b] = false := by cases a <;> rfl
/-- The list that a set holds. -/
def stN (g : Nat) (σ : Hp) : Option Nat := match σ.obj g with | some [.gl k, _] => some k | _ => none
/-- A set of some rows. -/
def PSet (g : Nat) (rows : List (List Bd)) (σ : Hp) : Prop := (rows = [] ∧ σ.obj g = some [.c (.slice none 0 0), .c (.bool true)]) ∨ ∃ k, σ.obj g = some [.gl k, .c (.bool true)] ∧ σ.gr k = some ((24, 1), rows.map encP)
theorem PSet.ex {g : Nat} {rows : List (List Bd)} {σ : Hp} (h : PSet g rows σ) : ∃ lv, σ.obj g = some [lv, .c (.bool true)] := by
  rcases h with ⟨_, h⟩ | ⟨k, h, _⟩
  · exact ⟨_, h⟩
  · exact ⟨_, h⟩
theorem none_spec (g : Nat) (lv : V) (σ : Hp) (ho : σ.obj g = some [lv, .c (.bool true)]) : ACalls Try.prog 94 [ptrV g] σ (fun v σ' => v = .c (.bool false) ∧ σ' = σ) := by
  refine ACalls.intro Try.call94 Try.func94 rfl Try.ntmps94 Try.results94 (by simp) ?_
  refine AW.seq_k fun K1 h1 => ?_
  all_goals refine AW.reg0 ?_
  all_goals (refine S.g rfl rfl fun K' k' => ?_; simp only [zz, reduceIte, Nat.reduceEqDiff, Nat.reduceAdd]; refine k' _ _ ?_; clear k' K')
  all_goals refine S.nil ?_
  all_goals simp only [ze, reduceIte, Nat.reduceEqDiff, Nat.reduceLT, Nat.reduceLeDiff, Nat.reduceAdd, reduceCtorEq, Nat.reduceMul]
  all_goals apply_assumption
  refine AW.seq_k fun K2 h2 => ?_
  all_goals refine AW.reg0 ?_
  all_goals (refine S.g rfl rfl fun K' k' => ?_; simp only [zz, reduceIte, Nat.reduceEqDiff, Nat.reduceAdd, ptrV, un65, TypeDesc.pointer.injEq, ho, map2, List.getD_cons_succ, List.getD_cons_zero]; refine k' _ _ ?_; clear k' K')
  all_goals (refine S.g rfl rfl fun K' k' => ?_; simp only [zz, reduceIte, Nat.reduceEqDiff, Nat.reduceLT, Nat.reduceLeDiff, Nat.reduceAdd, reduceCtorEq, Nat.reduceMul, un65, ptrV, un65, TypeDesc.pointer.injEq, ho, map2, List.getD_cons_succ, List.getD_cons_zero]; refine S.bool fun b a4 => ?_; cases b <;> (try (exfalso; first | exact Bool.noConfusion a4 | (have h := of_decide_eq_true a4; omega) | (have h := of_decide_eq_false a4; omega))) <;> (refine k' _ _ ?_; clear k' K'))
  all_goals (refine S.g rfl rfl fun K' k' => ?_; simp only [zz, reduceIte, Nat.reduceEqDiff, Nat.reduceAdd, ptrV, un65, TypeDesc.pointer.injEq, ho, map2, List.getD_cons_succ, List.getD_cons_zero]; refine k' _ _ ?_; clear k' K')
  all_goals iterate 5 (first | (refine S.y rfl rfl rfl rfl fun K' k' => ?_; simp only [zz, reduceIte, Nat.reduceEqDiff, Nat.reduceLT, Nat.reduceLeDiff, Nat.reduceAdd, reduceCtorEq, Nat.reduceMul, of123_1, ok4, sz4, ag4, ptrV, un65, TypeDesc.pointer.injEq, ho, map2, List.getD_cons_succ, List.getD_cons_zero]; refine k' _ _ ?_; clear k' K') | ((first | refine S.x rfl rfl rfl rfl fun K' k' => ?_ | refine S.u rfl rfl rfl rfl fun K' k' => ?_); simp only [ze, reduceIte, Nat.reduceEqDiff]; refine k' _ _ ?_; clear k' K'))
  all_goals iterate 2 (refine S.g rfl rfl fun K' k' => ?_; simp only [zz, reduceIte, Nat.reduceEqDiff, Nat.reduceAdd, ptrV, un65, TypeDesc.pointer.injEq, ho, map2, List.getD_cons_succ, List.getD_cons_zero]; refine k' _ _ ?_; clear k' K')
  all_goals refine S.nil ?_
  all_goals simp only [ze, reduceIte, Nat.reduceEqDiff, Nat.reduceLT, Nat.reduceLeDiff, Nat.reduceAdd, reduceCtorEq, Nat.reduceMul, ptrV, un65, TypeDesc.pointer.injEq, ho, map2, List.getD_cons_succ, List.getD_cons_zero]
  all_goals apply_assumption
  all_goals refine AW.ret ?_
  all_goals simp only [zs, reduceIte, Nat.reduceEqDiff, Nat.reduceLT, Nat.reduceLeDiff, Nat.reduceAdd, reduceCtorEq, Nat.reduceMul]
theorem len_spec (g : Nat) (rows : List (List Bd)) (σ : Hp) (hs : PSet g rows σ) : ACalls Try.prog 45 [ptrV g] σ (fun v σ' => v = .c (.int .i64 (rows.length : Nat)) ∧ σ' = σ) := by
  refine ACalls.intro Try.call45 Try.func45 rfl Try.ntmps45 Try.results45 (by simp) ?_
  have hns := none_spec g _ σ hs.ex.choose_spec
  refine AW.seq_k fun K1 h1 => ?_
  all_goals refine AW.reg0 ?_
  all_goals (refine S.g rfl rfl fun K' k' => ?_; simp only [zz, reduceIte, Nat.reduceEqDiff, Nat.reduceAdd]; refine k' _ _ ?_; clear k' K')
  all_goals refine S.nil ?_
  all_goals simp only [ze, reduceIte, Nat.reduceEqDiff, Nat.reduceLT, Nat.reduceLeDiff, Nat.reduceAdd, reduceCtorEq, Nat.reduceMul]
  all_goals apply_assumption
  refine AW.seq_k fun K2 h2 => ?_
  refine AW.seq_k fun K3 h3 => ?_
  all_goals refine AW.reg0 ?_
  all_goals (refine S.g rfl rfl fun K' k' => ?_; simp only [zz, reduceIte, Nat.reduceEqDiff, Nat.reduceAdd, ptrV]; refine k' _ _ ?_; clear k' K')
  all_goals (refine S.g rfl rfl fun K' k' => ?_; simp only [zz, reduceIte, Nat.reduceEqDiff, Nat.reduceLT, Nat.reduceLeDiff, Nat.reduceAdd, reduceCtorEq, Nat.reduceMul, ptrV]; refine hns.to fun v σ2 hv => ?_; obtain ⟨rfl, rfl⟩ := hv <;> (refine k' _ _ ?_; clear k' K'))
  all_goals refine S.nil ?_
  all_goals simp only [ze, reduceIte, Nat.reduceEqDiff, Nat.reduceLT, Nat.reduceLeDiff, Nat.reduceAdd, reduceCtorEq, Nat.reduceMul, ptrV]
  all_goals apply_assumption
  refine AW.cond (b := false) (by simp [ev]) (fun hc => by cases hc) (fun hc => ?_)
  refine AW.skip ?_
  all_goals simp only [zs, reduceIte, Nat.reduceEqDiff, Nat.reduceLT, Nat.reduceLeDiff, Nat.reduceAdd, reduceCtorEq, Nat.reduceMul]
  all_goals apply_assumption
  rcases hs with ⟨rfl, ho⟩ | ⟨k, ho, hk⟩
  · refine AW.seq_k fun K4 h4 => ?_
    all_goals refine AW.reg0 ?_
    all_goals iterate 6 (refine S.g rfl rfl fun K' k' => ?_; simp only [zz, reduceIte, Nat.reduceEqDiff, Nat.reduceLT, Nat.reduceLeDiff, Nat.reduceAdd, reduceCtorEq, Nat.reduceMul, of123_0, ok64, sz64, ag64, sl64, el64, ok24, sz24, ag24, ptrV, ho, map2, List.getD_cons_succ, List.getD_cons_zero]; refine k' _ _ ?_; clear k' K')
    all_goals refine S.nil ?_
    all_goals simp only [ze, reduceIte, Nat.reduceEqDiff, Nat.reduceLT, Nat.reduceLeDiff, Nat.reduceAdd, reduceCtorEq, Nat.reduceMul, ptrV, ho, map2, List.getD_cons_succ, List.getD_cons_zero]
    all_goals apply_assumption
    refine AW.ret ?_
    all_goals simp only [zs, reduceIte, Nat.reduceEqDiff, Nat.reduceLT, Nat.reduceLeDiff, Nat.reduceAdd, reduceCtorEq, Nat.reduceMul]
  · refine AW.seq_k fun K5 h5 => ?_
    all_goals refine AW.reg0 ?_
    all_goals iterate 6 (refine S.g rfl rfl fun K' k' => ?_; simp only [zz, reduceIte, Nat.reduceEqDiff, Nat.reduceLT, Nat.reduceLeDiff, Nat.reduceAdd, reduceCtorEq, Nat.reduceMul, of123_0, ok64, sz64, ag64, sl64, el64, ok24, sz24, ag24, ptrV, ho, hk, map2, List.getD_cons_succ, List.getD_cons_zero, List.length_map]; refine k' _ _ ?_; clear k' K')
    all_goals refine S.nil ?_
    all_goals simp only [ze, reduceIte, Nat.reduceEqDiff, Nat.reduceLT, Nat.reduceLeDiff, Nat.reduceAdd, reduceCtorEq, Nat.reduceMul, ptrV, ho, hk, map2, List.getD_cons_succ, List.getD_cons_zero, List.length_map]
    all_goals apply_assumption
    refine AW.ret ?_
    all_goals simp only [zs, reduceIte, Nat.reduceEqDiff, Nat.reduceLT, Nat.reduceLeDiff, Nat.reduceAdd, reduceCtorEq, Nat.reduceMul]
/-- What a search finds. -/
def Found (rows : List (List Bd)) (x : List Bd) (v : V) : Prop := ∃ (i : Nat) (b : Bool), v = .tup [.c (.int .i64 (i : Nat)), .c (.bool b)] ∧ i ≤ rows.length ∧ AtL rows x i ∧ (b = true ↔ ∃ y, rows[i]? = some y ∧ cmpL y x = 0)
theorem encP_gd {rows : List (List Bd)} {i : Nat} {y : List Bd} (h : rows[i]? = some y) : (rows.map encP).getD i [] = [.sl (y.map encBd)] := by simp [List.getD, h, encP]
set_option maxHeartbeats 1000000 in
theorem search_spec (rows : List (List Bd)) (x : List Bd) (hs : SrtL rows) (hr : rows.length < 140737488355329) (hl : ∀ y ∈ rows, y.length < 4611686018427387904) :
    PCalls Try.prog 96 [.sl (rows.map encP), .agg [.sl (x.map encBd)], .fn (.func 28) [] []] (Found rows x) := by
  refine PCalls.intro Try.call96 Try.func96 rfl Try.ntmps96 Try.results96 (by simp) ?_
  refine AW.seq_k fun K1 h1 => ?_
  all_goals refine AW.reg0 ?_
  all_goals iterate 3 (refine S.g rfl rfl fun K' k' => ?_; simp only [zz, reduceIte, Nat.reduceEqDiff, Nat.reduceLT, Nat.reduceLeDiff, Nat.reduceAdd, reduceCtorEq, Nat.reduceMul, ok24, sz24, ag24]; refine k' _ _ ?_; clear k' K')
  all_goals refine S.nil ?_
  all_goals simp only [ze, reduceIte, Nat.reduceEqDiff, Nat.reduceLT, Nat.reduceLeDiff, Nat.reduceAdd, reduceCtorEq, Nat.reduceMul]
  all_goals apply_assumption
  refine AW.seq_k fun K2 h2 => ?_
  all_goals refine AW.reg0 ?_
  all_goals iterate 3 (refine S.g rfl rfl fun K' k' => ?_; simp only [zz, reduceIte, Nat.reduceEqDiff, Nat.reduceLT, Nat.reduceLeDiff, Nat.reduceAdd, reduceCtorEq, Nat.reduceMul, sl64, el64, ok24, sz24, ag24, List.length_map]; refine k' _ _ ?_; clear k' K')
  all_goals refine S.nil ?_
  all_goals simp only [ze, reduceIte, Nat.reduceEqDiff, Nat.reduceLT, Nat.reduceLeDiff, Nat.reduceAdd, reduceCtorEq, Nat.reduceMul, List.length_map]
  all_goals apply_assumption
  refine AW.seq_k fun K3 h3 => ?_
  all_goals refine AW.reg0 ?_
  all_goals iterate 3 (refine S.g rfl rfl fun K' k' => ?_; simp only [zz, reduceIte, Nat.reduceEqDiff, Nat.reduceAdd]; refine k' _ _ ?_; clear k' K')
  all_goals refine S.nil ?_
  all_goals simp only [ze, reduceIte, Nat.reduceEqDiff, Nat.reduceLT, Nat.reduceLeDiff, Nat.reduceAdd, reduceCtorEq, Nat.reduceMul]
  all_goals apply_assumption
  refine AW.seq_j (fun s σ => σ = Hp.empty ∧ s.t 4 = .lp 4 0 ∧ s.l 4 = some [.sl (x.map encBd)] ∧ s.t 0 = .sl (rows.map encP) ∧ s.t 2 = .fn (.func 28) [] [] ∧ s.t 8 = .c (.int .i64 (rows.length : Nat)) ∧ ∃ i : Nat, s.t 9 = .c (.int .i64 (i : Nat)) ∧ i ≤ rows.length ∧ AtL rows x i) ?_ ?_
  · refine AW.block ?_   -- 0
    refine AW.loop (fun m s σ => σ = Hp.empty ∧ s.t 4 = .lp 4 0 ∧ s.l 4 = some [.sl (x.map encBd)] ∧ s.t 0 = .sl (rows.map encP) ∧ s.t 2 = .fn (.func 28) [] [] ∧ s.t 8 = .c (.int .i64 (rows.length : Nat)) ∧ ∃ lo hi : Nat, m = hi - lo ∧ s.t 9 = .c (.int .i64 (lo : Nat)) ∧ s.t 10 = .c (.int .i64 (hi : Nat)) ∧ lo ≤ hi ∧ hi ≤ rows.length ∧ (∀ j y, rows[j]? = some y → j < lo → cmpL y x < 0) ∧ (∀ j y, rows[j]? = some y → hi ≤ j → 0 ≤ cmpL y x)) rows.length ?_ ?_
    · all_goals simp only [zs, reduceIte, Nat.reduceEqDiff, Nat.reduceLT, Nat.reduceLeDiff, Nat.reduceAdd, reduceCtorEq, Nat.reduceMul]
      refine ⟨0, rows.length, by omega, rfl, rfl, Nat.zero_le _, Nat.le_refl _, fun j y _ h => by omega, fun j y hy h => ?_⟩
      have := (List.getElem?_eq_some_iff.1 hy).1
      omega
    rintro m s σ ⟨rfl, e4, l4, e0, e2, e8, lo, hi, hm, e9, e10, hlh, hhr, hlo, hhi⟩
    refine AW.seq_k fun K4 h4 => ?_
    refine AW.seq_k fun K5 h5 => ?_
    all_goals refine AW.reg0 ?_
    all_goals iterate 3 (refine S.g rfl rfl fun K' k' => ?_; simp only [zz, reduceIte, Nat.reduceEqDiff, Nat.reduceAdd, e9, e10]; refine k' _ _ ?_; clear k' K')
    all_goals refine S.nil ?_
    all_goals simp only [ze, reduceIte, Nat.reduceEqDiff, Nat.reduceLT, Nat.reduceLeDiff, Nat.reduceAdd, reduceCtorEq, Nat.reduceMul, e9, e10]
    all_goals apply_assumption
    refine AW.cond (b := decide (lo < hi)) (by simp [ev]) (fun hc => ?_) (fun hc => ?_)
    · have hc := of_decide_eq_true hc
      refine AW.skip ?_
      all_goals simp only [zs, reduceIte, Nat.reduceEqDiff, Nat.reduceLT, Nat.reduceLeDiff, Nat.reduceAdd, reduceCtorEq, Nat.reduceMul]
      all_goals apply_assumption
      have hw1 : IntKind.i64.wrap ((lo : Int) + (hi : Int)) = ((lo + hi : Nat) : Int) := by rw [wrap_small _ (by omega) (by omega)]; rfl
      have hw2 : IntKind.u64.wrap ((lo + hi : Nat) : Int) = ((lo + hi : Nat) : Int) := wrap_u64 (by omega)
      have hsh := shr64 (lo + hi) 1 (by omega)
      have hw2b : IntKind.u64.wrap (((lo + hi) / 2 ^ 1 : Nat) : Int) = (((lo + hi) / 2 ^ 1 : Nat) : Int) := wrap_u64 (by omega)
      have hw3 : IntKind.i64.wrap (((lo + hi) / 2 ^ 1 : Nat) : Int) = (((lo + hi) / 2 ^ 1 : Nat) : Int) := wrap_small _ (by omega) (by omega)
      have hto : Int.toNat 1 = 1 := rfl
      have h01 : ((0 : Int) ≤ 1) = True := by simp
      obtain ⟨mid, hmid⟩ : ∃ mid, mid = (lo + hi) / 2 ^ 1 := ⟨_, rfl⟩
      rw [← hmid] at hsh hw2b hw3
      have hml : lo ≤ mid := by omega
      have hmh : mid < hi := by omega
      have hmr : mid < rows.length := by omega
      refine AW.block ?_   -- 1
      refine AW.seq_k fun K6 h6 => ?_
      all_goals refine AW.reg0 ?_
      all_goals iterate 7 (refine S.g rfl rfl fun K' k' => ?_; simp only [zz, reduceIte, Nat.reduceEqDiff, Nat.reduceAdd, cv3_130, cv130_3, e9, e10, hw1, hw2, hto, hsh, hw2b, hw3, h01, true_and]; refine k' _ _ ?_; clear k' K')
      all_goals refine S.nil ?_
      all_goals simp only [ze, reduceIte, Nat.reduceEqDiff, Nat.reduceLT, Nat.reduceLeDiff, Nat.reduceAdd, reduceCtorEq, Nat.reduceMul, e9, e10, hw1, hw2, hto, hsh, hw2b, hw3, h01, true_and]
      all_goals apply_assumption
      obtain ⟨y, hy⟩ : ∃ y, rows[mid]? = some y := ⟨_, List.getElem?_eq_getElem hmr⟩
      have hyl := hl y (List.mem_of_getElem? hy)
      have hye := encP_gd hy
      have hw4 : IntKind.i64.wrap ((mid : Int) + 1) = ((mid + 1 : Nat) : Int) := by rw [wrap_small _ (by omega) (by omega)]; rfl
      refine AW.seq_k fun K7 h7 => ?_
      all_goals refine AW.draw (T := { sd := fun d => d == 4 }) (fun _ _ h => by cases h) mixedO [(0, 0), (1, 0), (2, 0), (3, 0), (4, 1), (5, 1), (6, 2), (7, 0)] rfl (by kernel_rfl) (by kernel_rfl) ?_
      all_goals iterate 4 (refine D.g rfl trivial rfl rfl fun K' k' => ?_; simp only [zz, reduceIte, Nat.reduceEqDiff, Nat.reduceLT, Nat.reduceLeDiff, Nat.reduceAdd, reduceCtorEq, Nat.reduceMul, sl64, el64, ok24, sz24, ag24, e0, e2, e4, l4, List.length_map, hmr, hye]; refine k' _ _ ?_; clear k' K')
      all_goals iterate 2 (refine D.g rfl (by first | rfl | (simp only [stC, ze, reduceIte, Nat.reduceEqDiff, e0, e2, e4, l4, List.length_map, hmr, hye]; done) | (simp only [stC, ze, reduceIte, Nat.reduceEqDiff, e0, e2, e4, l4, List.length_map, hmr, hye]; rfl)) rfl rfl fun K' k' => ?_; simp only [zz, reduceIte, Nat.reduceEqDiff, Nat.reduceLT, Nat.reduceLeDiff, Nat.reduceAdd, reduceCtorEq, Nat.reduceMul, ok24, sz24, ag24, e0, e2, e4, l4, List.length_map, hmr, hye]; refine k' _ _ ?_; clear k' K')
      all_goals (refine D.g rfl trivial rfl rfl fun K' k' => ?_; simp only [zz, reduceIte, Nat.reduceEqDiff, Nat.reduceLT, Nat.reduceLeDiff, Nat.reduceAdd, reduceCtorEq, Nat.reduceMul, e0, e2, e4, l4, List.length_map, hmr, hye]; refine PCalls.eqto (compare_part y x hyl) ?_ <;> (refine k' _ _ ?_; clear k' K'))
      all_goals (refine D.g rfl trivial rfl rfl fun K' k' => ?_; simp only [zz, reduceIte, Nat.reduceEqDiff, Nat.reduceAdd, e0, e2, e4, l4, List.length_map, hmr, hye]; refine k' _ _ ?_; clear k' K')
      all_goals refine D.nil ?_
      all_goals simp only [ze, reduceIte, Nat.reduceEqDiff, Nat.reduceLT, Nat.reduceLeDiff, Nat.reduceAdd, reduceCtorEq, Nat.reduceMul, e0, e2, e4, l4, List.length_map, hmr, hye]
      all_goals apply_assumption
      refine AW.cond (b := decide (cmpL y x < 0)) (by simp [ev]) (fun hc2 => ?_) (fun hc2 => ?_)
      · have hc2 := of_decide_eq_true hc2
        all_goals refine AW.reg0 ?_
        all_goals iterate 3 (refine S.g rfl rfl fun K' k' => ?_; simp only [zz, reduceIte, Nat.reduceEqDiff, Nat.reduceAdd, hw4]; refine k' _ _ ?_; clear k' K')
        all_goals refine S.nil ?_
        all_goals simp only [ze, reduceIte, Nat.reduceEqDiff, Nat.reduceLT, Nat.reduceLeDiff, Nat.reduceAdd, reduceCtorEq, Nat.reduceMul, hw4]
        refine ⟨m - 1 - (mid - lo), by omega, ?_⟩
        all_goals simp only [zs, reduceIte, Nat.reduceEqDiff, Nat.reduceLT, Nat.reduceLeDiff, Nat.reduceAdd, reduceCtorEq, Nat.reduceMul, e0, e2, e4, l4, e8]
        refine ⟨mid + 1, hi, by omega, rfl, e10, by omega, hhr, fun j z hz hj => ?_, hhi⟩
        rcases Nat.lt_or_ge j mid with h | h
        · exact tri_L.lt_le (hs.get hz hy h) (by omega)
        · obtain rfl : j = mid := by omega
          rw [hy] at hz; injection hz with hz; subst hz; exact hc2
      · have hc2 := of_decide_eq_false hc2
        all_goals refine AW.reg0 ?_
        all_goals iterate 2 (refine S.g rfl rfl fun K' k' => ?_; simp only [zz, reduceIte, Nat.reduceEqDiff, Nat.reduceAdd]; refine k' _ _ ?_; clear k' K')
        all_goals refine S.nil ?_
        all_goals simp only [ze, reduceIte, Nat.reduceEqDiff, Nat.reduceLT, Nat.reduceLeDiff, Nat.reduceAdd, reduceCtorEq, Nat.reduceMul]
        refine ⟨mid - lo, by omega, ?_⟩
        all_goals simp only [zs, reduceIte, Nat.reduceEqDiff, Nat.reduceLT, Nat.reduceLeDiff, Nat.reduceAdd, reduceCtorEq, Nat.reduceMul, e0, e2, e4, l4, e8]
        refine ⟨lo, mid, by omega, e9, rfl, by omega, by omega, hlo, fun j z hz hj => ?_⟩
        rcases Nat.lt_or_ge mid j with h | h
        · by_cases k : 0 ≤ cmpL z x
          · exact k
          · have := tri_L.lt_le (hs.get hy hz h) (by omega : cmpL z x ≤ 0)
            omega
        · obtain rfl : j = mid := by omega
          rw [hy] at hz; injection hz with hz; subst hz; omega
    · have hc := of_decide_eq_false hc
      refine AW.exit ?_
      all_goals simp only [zs, reduceIte, Nat.reduceEqDiff, Nat.reduceLT, Nat.reduceLeDiff, Nat.reduceAdd, reduceCtorEq, Nat.reduceMul, e0, e2, e4, l4, e8, e9]
      obtain rfl : lo = hi := by omega
      exact ⟨lo, rfl, hhr, ⟨hlo, hhi⟩⟩
  rintro s σ ⟨rfl, e4, l4, e0, e2, e8, i, e9, hi, hat⟩
  refine AW.seq_k fun K8 h8 => ?_
  by_cases hin : i < rows.length
  · obtain ⟨y, hy⟩ : ∃ y, rows[i]? = some y := ⟨_, List.getElem?_eq_getElem hin⟩
    have hyl := hl y (List.mem_of_getElem? hy)
    have hye := encP_gd hy
    have hdt : decide ((i : Int) < (rows.length : Int)) = true := by simp; omega
    all_goals refine AW.draw (T := { sd := fun d => d == 4 }) (fun _ _ h => by cases h) mixedO [(0, 0), (1, 0), (2, 0), (3, 0), (4, 0), (5, 0), (6, 0), (7, 0), (8, 0), (9, 1), (10, 1), (11, 2), (12, 0), (13, 0), (14, 0), (15, 0)] rfl (by kernel_rfl) (by kernel_rfl) ?_
    all_goals iterate 3 (refine D.g rfl trivial rfl rfl fun K' k' => ?_; simp only [zz, reduceIte, Nat.reduceEqDiff, Nat.reduceAdd, e0, e2, e4, l4, e8, e9, hdt, List.length_map, hin, hye]; refine k' _ _ ?_; clear k' K')
    all_goals (refine D.g rfl trivial rfl rfl fun K' k' => ?_; simp only [zz, reduceIte, Nat.reduceEqDiff, Nat.reduceLT, Nat.reduceLeDiff, Nat.reduceAdd, reduceCtorEq, Nat.reduceMul, e0, e2, e4, l4, e8, e9, hdt, List.length_map, hin, hye]; refine S.bool fun b a38 => ?_; cases b <;> (try (exfalso; first | exact Bool.noConfusion a38 | (have h := of_decide_eq_true a38; omega) | (have h := of_decide_eq_false a38; omega))) <;> (refine k' _ _ ?_; clear k' K'))
    all_goals (refine D.g rfl trivial rfl rfl fun K' k' => ?_; simp only [zz, reduceIte, Nat.reduceEqDiff, Nat.reduceAdd, e0, e2, e4, l4, e8, e9, hdt, List.length_map, hin, hye]; refine k' _ _ ?_; clear k' K')
    all_goals iterate 4 (first | (refine D.y rfl trivial rfl rfl rfl rfl fun K' k' => ?_; simp only [zz, reduceIte, Nat.reduceEqDiff, Nat.reduceLT, Nat.reduceLeDiff, Nat.reduceAdd, reduceCtorEq, Nat.reduceMul, sl64, el64, ok24, sz24, ag24, e0, e2, e4, l4, e8, e9, hdt, List.length_map, hin, hye]; refine k' _ _ ?_; clear k' K') | ((first | refine D.x rfl (fun h => by cases h) rfl rfl rfl rfl fun K' k' => ?_ | refine D.u rfl (fun h => by cases h) rfl rfl rfl rfl fun K' k' => ?_); simp only [ze, reduceIte, Nat.reduceEqDiff]; refine k' _ _ ?_; clear k' K'))
    all_goals iterate 2 (first | (refine D.y rfl (by first | rfl | (simp only [stC, ze, reduceIte, Nat.reduceEqDiff, e0, e2, e4, l4, e8, e9, hdt, List.length_map, hin, hye]; done) | (simp only [stC, ze, reduceIte, Nat.reduceEqDiff, e0, e2, e4, l4, e8, e9, hdt, List.length_map, hin, hye]; rfl)) rfl rfl rfl rfl fun K' k' => ?_; simp only [zz, reduceIte, Nat.reduceEqDiff, Nat.reduceLT, Nat.reduceLeDiff, Nat.reduceAdd, reduceCtorEq, Nat.reduceMul, ok24, sz24, ag24, e0, e2, e4, l4, e8, e9, hdt, List.length_map, hin, hye]; refine k' _ _ ?_; clear k' K') | ((first | refine D.x rfl (fun _ => rfl) rfl rfl rfl rfl fun K' k' => ?_ | refine D.u rfl (fun _ => rfl) rfl rfl rfl rfl fun K' k' => ?_); simp only [ze, reduceIte, Nat.reduceEqDiff]; refine k' _ _ ?_; clear k' K'))
    all_goals (first | (refine D.y rfl trivial rfl rfl rfl rfl fun K' k' => ?_; simp only [zz, reduceIte, Nat.reduceEqDiff, Nat.reduceLT, Nat.reduceLeDiff, Nat.reduceAdd, reduceCtorEq, Nat.reduceMul, e0, e2, e4, l4, e8, e9, hdt, List.length_map, hin, hye]; refine PCalls.eqto (compare_part y x hyl) ?_ <;> (refine k' _ _ ?_; clear k' K')) | ((first | refine D.x rfl (fun h => by cases h) rfl rfl rfl rfl fun K' k' => ?_ | refine D.u rfl (fun h => by cases h) rfl rfl rfl rfl fun K' k' => ?_); simp only [ze, reduceIte, Nat.reduceEqDiff]; refine k' _ _ ?_; clear k' K'))
    all_goals (first | (refine D.y rfl trivial rfl rfl rfl rfl fun K' k' => ?_; simp only [zz, reduceIte, Nat.reduceEqDiff, Nat.reduceAdd, e0, e2, e4, l4, e8, e9, hdt, List.length_map, hin, hye]; refine k' _ _ ?_; clear k' K') | ((first | refine D.x rfl (fun h => by cases h) rfl rfl rfl rfl fun K' k' => ?_ | refine D.u rfl (fun h => by cases h) rfl rfl rfl rfl fun K' k' => ?_); simp only [ze, reduceIte, Nat.reduceEqDiff]; refine k' _ _ ?_; clear k' K'))
    all_goals iterate 3 (refine D.g rfl trivial rfl rfl fun K' k' => ?_; simp only [zz, reduceIte, Nat.reduceEqDiff, Nat.reduceAdd, e0, e2, e4, l4, e8, e9, hdt, List.length_map, hin, hye]; refine k' _ _ ?_; clear k' K')
    all_goals refine D.nil ?_
    all_goals simp only [ze, reduceIte, Nat.reduceEqDiff, Nat.reduceLT, Nat.reduceLeDiff, Nat.reduceAdd, reduceCtorEq, Nat.reduceMul, e0, e2, e4, l4, e8, e9, hdt, List.length_map, hin, hye]
    all_goals apply_assumption
    refine AW.ret ?_
    all_goals simp only [zs, reduceIte, Nat.reduceEqDiff, Nat.reduceLT, Nat.reduceLeDiff, Nat.reduceAdd, reduceCtorEq, Nat.reduceMul]
    refine ⟨i, _, rfl, hi, hat, ?_⟩
    rw [beq_iff_eq]
    refine ⟨fun h => ⟨y, hy, h⟩, ?_⟩
    rintro ⟨z, hz, h⟩
    rw [hy] at hz; injection hz with hz; subst hz; exact h
  · have hdt : decide ((i : Int) < (rows.length : Int)) = false := by simp; omega
    all_goals refine AW.draw (T := { sd := fun d => d == 4 }) (fun _ _ h => by cases h) mixedO [(0, 0), (1, 0), (2, 0), (3, 0), (4, 0), (5, 0), (6, 0), (7, 0), (8, 0), (9, 1), (10, 1), (11, 2), (12, 0), (13, 0), (14, 0), (15, 0)] rfl (by kernel_rfl) (by kernel_rfl) ?_
    all_goals iterate 3 (refine D.g rfl trivial rfl rfl fun K' k' => ?_; simp only [zz, reduceIte, Nat.reduceEqDiff, Nat.reduceAdd, e0, e2, e4, l4, e8, e9, hdt]; refine k' _ _ ?_; clear k' K')
    all_goals (refine D.g rfl trivial rfl rfl fun K' k' => ?_; simp only [zz, reduceIte, Nat.reduceEqDiff, Nat.reduceLT, Nat.reduceLeDiff, Nat.reduceAdd, reduceCtorEq, Nat.reduceMul, e0, e2, e4, l4, e8, e9, hdt]; refine S.bool fun b a38 => ?_; cases b <;> (try (exfalso; first | exact Bool.noConfusion a38 | (have h := of_decide_eq_true a38; omega) | (have h := of_decide_eq_false a38; omega))) <;> (refine k' _ _ ?_; clear k' K'))
    all_goals (refine D.g rfl trivial rfl rfl fun K' k' => ?_; simp only [zz, reduceIte, Nat.reduceEqDiff, Nat.reduceAdd, e0, e2, e4, l4, e8, e9, hdt]; refine k' _ _ ?_; clear k' K')
    all_goals iterate 4 (first | (refine D.y rfl trivial rfl rfl rfl rfl fun K' k' => ?_; simp only [zz, reduceIte, Nat.reduceEqDiff, Nat.reduceLT, Nat.reduceLeDiff, Nat.reduceAdd, reduceCtorEq, Nat.reduceMul, sl64, el64, ok24, sz24, ag24, e0, e2, e4, l4, e8, e9, hdt]; refine k' _ _ ?_; clear k' K') | ((first | refine D.x rfl (fun h => by cases h) rfl rfl rfl rfl fun K' k' => ?_ | refine D.u rfl (fun h => by cases h) rfl rfl rfl rfl fun K' k' => ?_); simp only [ze, reduceIte, Nat.reduceEqDiff]; refine k' _ _ ?_; clear k' K'))
    all_goals iterate 2 (first | (refine D.y rfl (by first | rfl | (simp only [stC, ze, reduceIte, Nat.reduceEqDiff, e0, e2, e4, l4, e8, e9, hdt]; done) | (simp only [stC, ze, reduceIte, Nat.reduceEqDiff, e0, e2, e4, l4, e8, e9, hdt]; rfl)) rfl rfl rfl rfl fun K' k' => ?_; simp only [zz, reduceIte, Nat.reduceEqDiff, Nat.reduceLT, Nat.reduceLeDiff, Nat.reduceAdd, reduceCtorEq, Nat.reduceMul, ok24, sz24, ag24, e0, e2, e4, l4, e8, e9, hdt]; refine k' _ _ ?_; clear k' K') | ((first | refine D.x rfl (fun _ => rfl) rfl rfl rfl rfl fun K' k' => ?_ | refine D.u rfl (fun _ => rfl) rfl rfl rfl rfl fun K' k' => ?_); simp only [ze, reduceIte, Nat.reduceEqDiff]; refine k' _ _ ?_; clear k' K'))
    all_goals (first | (refine D.y rfl trivial rfl rfl rfl rfl fun K' k' => ?_; simp only [zz, reduceIte, Nat.reduceEqDiff, Nat.reduceLT, Nat.reduceLeDiff, Nat.reduceAdd, reduceCtorEq, Nat.reduceMul, e0, e2, e4, l4, e8, e9, hdt]; refine PCalls.eqto (compare_part y x hyl) ?_ <;> (refine k' _ _ ?_; clear k' K')) | ((first | refine D.x rfl (fun h => by cases h) rfl rfl rfl rfl fun K' k' => ?_ | refine D.u rfl (fun h => by cases h) rfl rfl rfl rfl fun K' k' => ?_); simp only [ze, reduceIte, Nat.reduceEqDiff]; refine k' _ _ ?_; clear k' K'))
    all_goals (first | (refine D.y rfl trivial rfl rfl rfl rfl fun K' k' => ?_; simp only [zz, reduceIte, Nat.reduceEqDiff, Nat.reduceAdd, e0, e2, e4, l4, e8, e9, hdt]; refine k' _ _ ?_; clear k' K') | ((first | refine D.x rfl (fun h => by cases h) rfl rfl rfl rfl fun K' k' => ?_ | refine D.u rfl (fun h => by cases h) rfl rfl rfl rfl fun K' k' => ?_); simp only [ze, reduceIte, Nat.reduceEqDiff]; refine k' _ _ ?_; clear k' K'))
    all_goals iterate 3 (refine D.g rfl trivial rfl rfl fun K' k' => ?_; simp only [zz, reduceIte, Nat.reduceEqDiff, Nat.reduceAdd, e0, e2, e4, l4, e8, e9, hdt]; refine k' _ _ ?_; clear k' K')
    all_goals refine D.nil ?_
    all_goals simp only [ze, reduceIte, Nat.reduceEqDiff, Nat.reduceLT, Nat.reduceLeDiff, Nat.reduceAdd, reduceCtorEq, Nat.reduceMul, e0, e2, e4, l4, e8, e9, hdt]
    all_goals apply_assumption
    refine AW.ret ?_
    all_goals simp only [zs, reduceIte, Nat.reduceEqDiff, Nat.reduceLT, Nat.reduceLeDiff, Nat.reduceAdd, reduceCtorEq, Nat.reduceMul]
    refine ⟨i, false, rfl, hi, hat, ?_⟩
    simp only [Bool.false_eq_true, false_iff]
    rintro ⟨z, hz, _⟩
    exact hin (List.getElem?_eq_some_iff.1 hz).1
end Go.Abs.M
namespace Go.Abs.M
open Go Go.Abs Go.Proofs
set_option maxRecDepth 20000
set_option linter.unusedSimpArgs false
set_option linter.unusedVariables false
theorem search_set {g : Nat} {rows : List (List Bd)} {σ : Hp} {lv : V} (x : List Bd) (hs : PSet g rows σ) (ho : σ.obj g = some [lv, .c (.bool true)]) (ht : SrtL rows) (hr : rows.length < 140737488355329) (hl : ∀ y ∈ rows, y.length < 4611686018427387904) :
    okV lv = true ∧ ACalls Try.prog 96 [wk lv, .agg [.sl (x.map encBd)], .fn (.func 28) [] []] σ (fun v σ' => Found rows x v ∧ σ' = σ) := by
  have h := search_spec rows x ht hr hl
  rcases hs with ⟨rfl, h1⟩ | ⟨k, h1, hk⟩
  · rw [ho] at h1
    injection h1 with h1; injection h1 with h1 _; subst h1
    exact ⟨rfl, h.to fun v hv => ⟨hv, rfl⟩⟩
  · rw [ho] at h1
    injection h1 with h1; injection h1 with h1 _; subst h1
    refine ⟨rfl, (PCalls.lendT (R := Found rows x) (σ := σ) (k := k) (T := (24, 1)) (es := rows.map encP) (args := [.gl k, .agg [.sl (x.map encBd)], .fn (.func 28) [] []]) ?_ hk ?_).mono fun v σ' hv => ⟨hv.2, hv.1⟩⟩
    · have e : [V.gl k, .agg [.sl (x.map encBd)], .fn (.func 28) [] []].map (fzV k (rows.map encP)) = [.sl (rows.map encP), .agg [.sl (x.map encBd)], .fn (.func 28) [] []] := by simp [fzV, fz1]
      rw [e]; exact h
    · rintro v ⟨i, b, rfl, _⟩
      exact ⟨_, _, rfl⟩
theorem has_spec (g : Nat) (rows : List (List Bd)) (x : List Bd) (σ : Hp) (hs : PSet g rows σ) (ht : SrtL rows) (hr : rows.length < 140737488355329) (hl : ∀ y ∈ rows, y.length < 4611686018427387904) :
    ACalls Try.prog 44 [ptrV g, .agg [.sl (x.map encBd)]] σ (fun v σ' => v = .c (.bool (hasL rows x)) ∧ σ' = σ) := by
  refine ACalls.intro Try.call44 Try.func44 rfl Try.ntmps44 Try.results44 (by simp) ?_
  obtain ⟨lv, ho⟩ := hs.ex
  have hns := none_spec g _ σ ho
  have hsr := search_set x hs ho ht hr hl
  refine AW.seq_k fun K1 h1 => ?_
  all_goals refine AW.reg0 ?_
  all_goals iterate 2 (refine S.g rfl rfl fun K' k' => ?_; simp only [zz, reduceIte, Nat.reduceEqDiff, Nat.reduceLT, Nat.reduceLeDiff, Nat.reduceAdd, reduceCtorEq, Nat.reduceMul, ok24, sz24, ag24]; refine k' _ _ ?_; clear k' K')
  all_goals refine S.nil ?_
  all_goals simp only [ze, reduceIte, Nat.reduceEqDiff, Nat.reduceLT, Nat.reduceLeDiff, Nat.reduceAdd, reduceCtorEq, Nat.reduceMul]
  all_goals apply_assumption
  refine AW.seq_k fun K2 h2 => ?_
  refine AW.seq_k fun K3 h3 => ?_
  all_goals refine AW.reg0 ?_
  all_goals (refine S.g rfl rfl fun K' k' => ?_; simp only [zz, reduceIte, Nat.reduceEqDiff, Nat.reduceAdd, ptrV]; refine k' _ _ ?_; clear k' K')
  all_goals (refine S.g rfl rfl fun K' k' => ?_; simp only [zz, reduceIte, Nat.reduceEqDiff, Nat.reduceLT, Nat.reduceLeDiff, Nat.reduceAdd, reduceCtorEq, Nat.reduceMul, ptrV]; refine hns.to fun v σ2 hv => ?_; obtain ⟨rfl, rfl⟩ := hv <;> (refine k' _ _ ?_; clear k' K'))
  all_goals refine S.nil ?_
  all_goals simp only [ze, reduceIte, Nat.reduceEqDiff, Nat.reduceLT, Nat.reduceLeDiff, Nat.reduceAdd, reduceCtorEq, Nat.reduceMul, ptrV]
  all_goals apply_assumption
  refine AW.cond (b := false) (by simp [ev]) (fun hc => by cases hc) (fun hc => ?_)
  refine AW.skip ?_
  all_goals simp only [zs, reduceIte, Nat.reduceEqDiff, Nat.reduceLT, Nat.reduceLeDiff, Nat.reduceAdd, reduceCtorEq, Nat.reduceMul]
  all_goals apply_assumption
  refine AW.seq_k fun K4 h4 => ?_
  all_goals refine AW.drawF (T := { sd := fun d => d == 3 }) (fun _ _ h => by cases h) mixedO (.st 0 0 (.st 1 0 (.st 2 0 (.st 4 1 (.st 3 2 (.st 5 2 (.st 6 0 (.st 7 0 (.st 8 0 (.st 9 0 (.st 10 0 .nil))))))))))) rfl (by kernel_rfl) (by kernel_rfl) ?_
  all_goals iterate 3 (refine F.g rfl trivial rfl rfl fun K' k' => ?_; simp only [zz, reduceIte, Nat.reduceEqDiff, Nat.reduceLT, Nat.reduceLeDiff, Nat.reduceAdd, reduceCtorEq, Nat.reduceMul, of123_0, ptrV, ho, map2, List.getD_cons_zero]; refine k' _ _ ?_; clear k' K')
  all_goals (refine F.g rfl (by first | rfl | (simp only [stC, ze, reduceIte, Nat.reduceEqDiff, ptrV, ho, map2, List.getD_cons_zero]; done) | (simp only [stC, ze, reduceIte, Nat.reduceEqDiff, ptrV, ho, map2, List.getD_cons_zero]; rfl)) rfl rfl fun K' k' => ?_; simp only [zz, reduceIte, Nat.reduceEqDiff, Nat.reduceLT, Nat.reduceLeDiff, Nat.reduceAdd, reduceCtorEq, Nat.reduceMul, ok24, sz24, ag24, ptrV, ho, map2, List.getD_cons_zero]; refine k' _ _ ?_; clear k' K')
  all_goals (refine F.g rfl trivial rfl rfl fun K' k' => ?_; simp only [zz, reduceIte, Nat.reduceEqDiff, Nat.reduceLT, Nat.reduceLeDiff, Nat.reduceAdd, reduceCtorEq, Nat.reduceMul, ok64, sz64, ag64, ptrV, ho, map2, List.getD_cons_zero]; refine k' _ _ ?_; clear k' K')
  all_goals (refine F.g rfl trivial rfl rfl fun K' k' => ?_; simp only [zz, reduceIte, Nat.reduceEqDiff, Nat.reduceLT, Nat.reduceLeDiff, Nat.reduceAdd, reduceCtorEq, Nat.reduceMul, ptrV, ho, map2, List.getD_cons_zero]; refine ⟨hsr.1, hsr.2.to fun v σ2 hv => ?_⟩; obtain ⟨⟨i, b, rfl, hi, hat, hb⟩, rfl⟩ := hv <;> (refine k' _ _ ?_; clear k' K'))
  all_goals iterate 5 (refine F.g rfl trivial rfl rfl fun K' k' => ?_; simp only [zz, reduceIte, Nat.reduceEqDiff, Nat.reduceLT, Nat.reduceLeDiff, Nat.reduceAdd, reduceCtorEq, Nat.reduceMul, ptrV, ho, map2, List.getD_cons_zero]; refine k' _ _ ?_; clear k' K')
  all_goals refine F.nil ?_
  all_goals simp only [ze, reduceIte, Nat.reduceEqDiff, Nat.reduceLT, Nat.reduceLeDiff, Nat.reduceAdd, reduceCtorEq, Nat.reduceMul, ptrV, ho, map2, List.getD_cons_zero]
  all_goals apply_assumption
  refine AW.seq_k fun K5 h5 => ?_
  all_goals refine AW.reg0 ?_
  all_goals iterate 2 (refine S.g rfl rfl fun K' k' => ?_; simp only [zz, reduceIte, Nat.reduceEqDiff, Nat.reduceAdd]; refine k' _ _ ?_; clear k' K')
  all_goals refine S.nil ?_
  all_goals simp only [ze, reduceIte, Nat.reduceEqDiff, Nat.reduceLT, Nat.reduceLeDiff, Nat.reduceAdd, reduceCtorEq, Nat.reduceMul]
  all_goals apply_assumption
  refine AW.ret ?_
  all_goals simp only [zs, reduceIte, Nat.reduceEqDiff, Nat.reduceLT, Nat.reduceLeDiff, Nat.reduceAdd, reduceCtorEq, Nat.reduceMul]
  have : b = hasL rows x := by
    rw [Bool.eq_iff_iff, hb, hat.has ht]
  rw [this]
end Go.Abs.M
namespace Go.Abs.M
open Go Go.Abs Go.Proofs
set_option maxRecDepth 20000
set_option linter.unusedSimpArgs false
set_option linter.unusedVariables false
/-- What else there is stays. -/
structure PFr (g : Nat) (σ σ' : Hp) : Prop where
  obj : ∀ x, x ≠ g → σ'.obj x = σ.obj x
  gr : ∀ k x, σ.gr k = some x → stN g σ ≠ some k → σ'.gr k = some x ∧ stN g σ' ≠ some k
theorem PFr.refl (g : Nat) (σ : Hp) : PFr g σ σ := ⟨fun _ _ => rfl, fun _ _ h k => ⟨h, k⟩⟩
theorem PFr.trans {g : Nat} {a b c : Hp} (h : PFr g a b) (k : PFr g b c) : PFr g a c :=
  ⟨fun x hx => (k.obj x hx).trans (h.obj x hx), fun n x hx hn => by
    obtain ⟨h1, h2⟩ := h.gr n x hx hn
    exact k.gr n x h1 h2⟩
theorem delO_obj (σ : Hp) (ok : Option Nat) : (σ.delO ok).obj = σ.obj := by cases ok <;> rfl
/-- A row put into a set's list. -/
theorem insert_set {σ : Hp} {lv : V} {ok : Option Nat} {rows : List (List Bd)} {x : List Bd} {i k3 : Nat} (hd : dstE σ 24 1 lv = some (ok, rows.map encP)) (hf : σ.gr k3 = none) (hi : i ≤ rows.length) (hn : (rows.length + 1) * 24 ≤ 140737488355328) :
    ACalls Try.prog 97 [lv, .c (.int .i64 (i : Nat)), .gl k3] (σ.setGr k3 (some ((24, 1), [[.sl (x.map encBd)]]))) (fun v σ' => ∃ k', v = .gl k' ∧ σ'.obj = σ.obj ∧ σ'.gr k' = some ((24, 1), (rows.take i ++ x :: rows.drop i).map encP) ∧
      ∀ k y, σ.gr k = some y → ok ≠ some k → σ'.gr k = some y ∧ k' ≠ k) := by
  have hok : ok ≠ some k3 := fun e => by
    subst e
    unfold dstE at hd
    split at hd
    · cases hd
    · split at hd
      · rename_i hg
        split at hd
        · injection hd with hd; injection hd with hd _; injection hd with hd; subst hd; rw [hf] at hg; cases hg
        · cases hd
      · cases hd
    · cases hd
  have hd' : dstE (σ.setGr k3 (some ((24, 1), [[.sl (x.map encBd)]]))) 24 1 lv = some (ok, rows.map encP) := by
    rw [← hd]
    unfold dstE
    split
    · rfl
    · rename_i k
      by_cases e : k = k3
      · subst e
        unfold dstE at hd
        simp only [hf] at hd
        cases hd
      · simp [Hp.setGr, e]
    · rfl
  refine (insert_at hd' (k3 := k3) (x := .sl (x.map encBd)) (by simp [Hp.setGr]) hok (by simpa using hi) (by simpa using hn)).mono fun v σ' ⟨k', e1, e2, e3⟩ => ⟨k', e1, ?_, ?_, fun k y hk hko => ?_⟩
  · rw [e3, Hp.setGr, delO_obj]; rfl
  · rw [e3]
    simp [Hp.setGr, encP]
  · have h1 : ((σ.setGr k3 (some ((24, 1), [[.sl (x.map encBd)]]))).delO ok).gr k = some y := by
      have hk3 : k ≠ k3 := fun e => by rw [e, hf] at hk; cases hk
      cases ok with
      | none => simp [Hp.delO, Hp.setGr, hk3, hk]
      | some j =>
        have : k ≠ j := fun e => hko (by rw [e])
        simp [Hp.delO, Hp.setGr, hk3, hk, this]
    have hne : k ≠ k' := fun e => by rw [e, e2] at h1; cases h1
    refine ⟨?_, fun e => hne e.symm⟩
    rw [e3]
    simp [Hp.setGr, hne]
    exact h1
theorem PSet.dst {g : Nat} {rows : List (List Bd)} {σ : Hp} (h : PSet g rows σ) : ∃ lv, σ.obj g = some [lv, .c (.bool true)] ∧ okV lv = true ∧ dstE σ 24 1 lv = some (stN g σ, rows.map encP) := by
  rcases h with ⟨rfl, h⟩ | ⟨k, h, hk⟩
  · exact ⟨_, h, rfl, by simp [dstE, stN, h]⟩
  · exact ⟨_, h, rfl, by simp [dstE, stN, h, hk]⟩
theorem PSet.put {g : Nat} {rows rows' : List (List Bd)} {σ σ' : Hp} {b : V} {k' : Nat} (ho : σ'.obj = σ.obj) (hk : σ'.gr k' = some ((24, 1), rows'.map encP)) (hf : ∀ k y, σ.gr k = some y → stN g σ ≠ some k → σ'.gr k = some y ∧ k' ≠ k) :
    PSet g rows' (σ'.setObj g (some [.gl k', .c (.bool true)])) ∧ PFr g σ (σ'.setObj g (some [.gl k', .c (.bool true)])) := by
  refine ⟨.inr ⟨k', by simp, by simpa using hk⟩, ⟨fun x hx => by simp [hx, ho], fun k x h1 h2 => ?_⟩⟩
  obtain ⟨h3, h4⟩ := hf k x h1 h2
  refine ⟨by simpa using h3, ?_⟩
  simp only [stN, Hp.setObj_obj, if_true]
  exact fun e => h4 (by injection e)
end Go.Abs.M
namespace Go.Abs.M
open Go Go.Abs Go.Proofs
set_option maxRecDepth 20000
set_option linter.unusedSimpArgs false
set_option linter.unusedVariables false
def freshL (rows : List (List Bd)) (x : List Bd) : Bool := decide (partErr x = 0) && !hasL rows x
theorem neq0 (n : Int) : (n != 0) = !decide (n = 0) := by
  by_cases h : n = 0
  · simp [h]
  · simp [h]
set_option maxHeartbeats 2000000 in
theorem add_spec (g : Nat) (rows : List (List Bd)) (x : List Bd) (σ : Hp) (hs : PSet g rows σ) (ht : SrtL rows) (hn : (rows.length + 1) * 24 ≤ 140737488355328) (hl : ∀ y ∈ rows, y.length < 4611686018427387904) (hx : okI x) :
    ACalls Try.prog 51 [ptrV g, .agg [.sl (x.map encBd)]] σ (fun v σ' => v = .c (.bool (freshL rows x)) ∧ PSet g (addL rows x) σ' ∧ PFr g σ σ') := by
  refine ACalls.intro Try.call51 Try.func51 rfl Try.ntmps51 Try.results51 (by simp) ?_
  obtain ⟨lv, ho, hlv, hd⟩ := hs.dst
  have hns := none_spec g _ σ ho
  have hsr := search_set x hs ho ht (by omega) hl
  refine AW.seq_k fun K1 h1 => ?_
  all_goals refine AW.reg0 ?_
  all_goals iterate 2 (refine S.g rfl rfl fun K' k' => ?_; simp only [zz, reduceIte, Nat.reduceEqDiff, Nat.reduceLT, Nat.reduceLeDiff, Nat.reduceAdd, reduceCtorEq, Nat.reduceMul, ok24, sz24, ag24]; refine k' _ _ ?_; clear k' K')
  all_goals refine S.nil ?_
  all_goals simp only [ze, reduceIte, Nat.reduceEqDiff, Nat.reduceLT, Nat.reduceLeDiff, Nat.reduceAdd, reduceCtorEq, Nat.reduceMul]
  all_goals apply_assumption
  refine AW.seq_k fun K2 h2 => ?_
  refine AW.seq_k fun K3 h3 => ?_
  all_goals refine AW.reg0 ?_
  all_goals (refine S.g rfl rfl fun K' k' => ?_; simp only [zz, reduceIte, Nat.reduceEqDiff, Nat.reduceAdd, ptrV, neq0]; refine k' _ _ ?_; clear k' K')
  all_goals (refine S.g rfl rfl fun K' k' => ?_; simp only [zz, reduceIte, Nat.reduceEqDiff, Nat.reduceLT, Nat.reduceLeDiff, Nat.reduceAdd, reduceCtorEq, Nat.reduceMul, ptrV, neq0]; refine hns.to fun v σ2 hv => ?_; obtain ⟨rfl, rfl⟩ := hv; refine S.bool fun b a8 => ?_; cases b <;> (try (exfalso; first | exact Bool.noConfusion a8 | (have h := of_decide_eq_true a8; omega) | (have h := of_decide_eq_false a8; omega))) <;> (refine k' _ _ ?_; clear k' K'))
  all_goals (refine S.g rfl rfl fun K' k' => ?_; simp only [zz, reduceIte, Nat.reduceEqDiff, Nat.reduceAdd, ptrV, neq0]; refine k' _ _ ?_; clear k' K')
  all_goals (first | (refine S.y rfl rfl rfl rfl fun K' k' => ?_; simp only [zz, reduceIte, Nat.reduceEqDiff, Nat.reduceLT, Nat.reduceLeDiff, Nat.reduceAdd, reduceCtorEq, Nat.reduceMul, ok24, sz24, ag24, ptrV, neq0]; refine k' _ _ ?_; clear k' K') | ((first | refine S.x rfl rfl rfl rfl fun K' k' => ?_ | refine S.u rfl rfl rfl rfl fun K' k' => ?_); simp only [ze, reduceIte, Nat.reduceEqDiff]; refine k' _ _ ?_; clear k' K'))
  all_goals (first | (refine S.y rfl rfl rfl rfl fun K' k' => ?_; simp only [zz, reduceIte, Nat.reduceEqDiff, Nat.reduceLT, Nat.reduceLeDiff, Nat.reduceAdd, reduceCtorEq, Nat.reduceMul, ptrV, neq0]; refine PCalls.eqto (check_part x hx.ok) ?_ <;> (refine k' _ _ ?_; clear k' K')) | ((first | refine S.x rfl rfl rfl rfl fun K' k' => ?_ | refine S.u rfl rfl rfl rfl fun K' k' => ?_); simp only [ze, reduceIte, Nat.reduceEqDiff]; refine k' _ _ ?_; clear k' K'))
  all_goals (first | (refine S.y rfl rfl rfl rfl fun K' k' => ?_; simp only [zz, reduceIte, Nat.reduceEqDiff, Nat.reduceAdd, ptrV, neq0]; refine k' _ _ ?_; clear k' K') | ((first | refine S.x rfl rfl rfl rfl fun K' k' => ?_ | refine S.u rfl rfl rfl rfl fun K' k' => ?_); simp only [ze, reduceIte, Nat.reduceEqDiff]; refine k' _ _ ?_; clear k' K'))
  all_goals (refine S.g rfl rfl fun K' k' => ?_; simp only [zz, reduceIte, Nat.reduceEqDiff, Nat.reduceAdd, ptrV, neq0]; refine k' _ _ ?_; clear k' K')
  all_goals refine S.nil ?_
  all_goals simp only [ze, reduceIte, Nat.reduceEqDiff, Nat.reduceLT, Nat.reduceLeDiff, Nat.reduceAdd, reduceCtorEq, Nat.reduceMul, ptrV, neq0]
  all_goals apply_assumption
  refine AW.cond (b := !decide (partErr x = 0)) (by simp [ev]) (fun hc => ?_) (fun hc => ?_)
  · have hc : ¬ partErr x = 0 := by simpa using hc
    refine AW.seq_k fun K4 h4 => ?_
    all_goals refine AW.reg0 ?_
    all_goals (refine S.g rfl rfl fun K' k' => ?_; simp only [zz, reduceIte, Nat.reduceEqDiff, Nat.reduceAdd]; refine k' _ _ ?_; clear k' K')
    all_goals refine S.nil ?_
    all_goals simp only [ze, reduceIte, Nat.reduceEqDiff, Nat.reduceLT, Nat.reduceLeDiff, Nat.reduceAdd, reduceCtorEq, Nat.reduceMul]
    all_goals apply_assumption
    refine AW.ret ?_
    all_goals simp only [zs, reduceIte, Nat.reduceEqDiff, Nat.reduceLT, Nat.reduceLeDiff, Nat.reduceAdd, reduceCtorEq, Nat.reduceMul]
    refine ⟨by simp [freshL, hc], ?_, .refl _ _⟩
    rw [addL, if_neg (fun h => hc h.1)]
    exact hs
  have hc : partErr x = 0 := by simpa using hc
  refine AW.skip ?_
  all_goals simp only [zs, reduceIte, Nat.reduceEqDiff, Nat.reduceLT, Nat.reduceLeDiff, Nat.reduceAdd, reduceCtorEq, Nat.reduceMul]
  all_goals apply_assumption
  refine AW.seq_k fun K5 h5 => ?_
  all_goals refine AW.drawF (T := { sd := fun d => d == 3 }) (fun _ _ h => by cases h) mixedO (.st 0 0 (.st 1 0 (.st 2 0 (.st 4 1 (.st 3 2 (.st 5 2 (.st 6 0 (.st 7 0 (.st 8 0 (.st 9 0 (.st 10 0 .nil))))))))))) rfl (by kernel_rfl) (by kernel_rfl) ?_
  all_goals iterate 3 (refine F.g rfl trivial rfl rfl fun K' k' => ?_; simp only [zz, reduceIte, Nat.reduceEqDiff, Nat.reduceLT, Nat.reduceLeDiff, Nat.reduceAdd, reduceCtorEq, Nat.reduceMul, of123_0, ptrV, ho, map2, List.getD_cons_zero]; refine k' _ _ ?_; clear k' K')
  all_goals (refine F.g rfl (by first | rfl | (simp only [stC, ze, reduceIte, Nat.reduceEqDiff, ptrV, ho, map2, List.getD_cons_zero]; done) | (simp only [stC, ze, reduceIte, Nat.reduceEqDiff, ptrV, ho, map2, List.getD_cons_zero]; rfl)) rfl rfl fun K' k' => ?_; simp only [zz, reduceIte, Nat.reduceEqDiff, Nat.reduceLT, Nat.reduceLeDiff, Nat.reduceAdd, reduceCtorEq, Nat.reduceMul, ok24, sz24, ag24, ptrV, ho, map2, List.getD_cons_zero]; refine k' _ _ ?_; clear k' K')
  all_goals (refine F.g rfl trivial rfl rfl fun K' k' => ?_; simp only [zz, reduceIte, Nat.reduceEqDiff, Nat.reduceLT, Nat.reduceLeDiff, Nat.reduceAdd, reduceCtorEq, Nat.reduceMul, ok64, sz64, ag64, ptrV, ho, map2, List.getD_cons_zero]; refine k' _ _ ?_; clear k' K')
  all_goals (refine F.g rfl trivial rfl rfl fun K' k' => ?_; simp only [zz, reduceIte, Nat.reduceEqDiff, Nat.reduceLT, Nat.reduceLeDiff, Nat.reduceAdd, reduceCtorEq, Nat.reduceMul, ptrV, ho, map2, List.getD_cons_zero]; refine ⟨hsr.1, hsr.2.to fun v σ2 hv => ?_⟩; obtain ⟨⟨i, b, rfl, hi, hat, hb⟩, rfl⟩ := hv <;> (refine k' _ _ ?_; clear k' K'))
  all_goals iterate 5 (refine F.g rfl trivial rfl rfl fun K' k' => ?_; simp only [zz, reduceIte, Nat.reduceEqDiff, Nat.reduceLT, Nat.reduceLeDiff, Nat.reduceAdd, reduceCtorEq, Nat.reduceMul, ptrV, ho, map2, List.getD_cons_zero]; refine k' _ _ ?_; clear k' K')
  all_goals refine F.nil ?_
  all_goals simp only [ze, reduceIte, Nat.reduceEqDiff, Nat.reduceLT, Nat.reduceLeDiff, Nat.reduceAdd, reduceCtorEq, Nat.reduceMul, ptrV, ho, map2, List.getD_cons_zero]
  all_goals apply_assumption
  have hbh : b = hasL rows x := by rw [Bool.eq_iff_iff, hb, hat.has ht]
  refine AW.seq_j (fun s σ' => s.t 6 = .c (.bool b) ∧ PSet g (addL rows x) σ' ∧ PFr g σ2 σ') ?_ ?_
  · refine AW.seq_k fun K6 h6 => ?_
    all_goals refine AW.reg0 ?_
    all_goals iterate 2 (refine S.g rfl rfl fun K' k' => ?_; simp only [zz, reduceIte, Nat.reduceEqDiff, Nat.reduceAdd]; refine k' _ _ ?_; clear k' K')
    all_goals refine S.nil ?_
    all_goals simp only [ze, reduceIte, Nat.reduceEqDiff, Nat.reduceLT, Nat.reduceLeDiff, Nat.reduceAdd, reduceCtorEq, Nat.reduceMul]
    all_goals apply_assumption
    refine AW.cond (b := !b) (by simp [ev]) (fun hc2 => ?_) (fun hc2 => ?_)
    · have hc2 : b = false := by simpa using hc2
      subst hc2
      have hadd : addL rows x = rows.take i ++ x :: rows.drop i := by rw [addL, if_pos ⟨hc, hbh.symm⟩, hat.ins hi]
      all_goals refine AW.drawF (T := { sd := fun d => d == 3, own := fun d => d == 33, raw := fun d => d == 97 }) (fun _ _ h => by cases h) mixedO (.st 0 0 (.st 1 0 (.st 2 0 (.st 3 0 (.st 5 0 (.st 6 1 (.fork 4 (.st 7 2 (.st 8 2 (.st 9 2 (.st 10 0 (.st 11 0 (.st 12 2 .nil)))))) 7 (.fork 4 (.st 8 2 (.st 9 2 (.st 10 0 (.st 11 0 (.st 12 2 .nil))))) 8 (.st 4 2 (.st 9 2 (.st 10 0 (.st 11 0 (.st 12 2 .nil))))))))))))) rfl (by kernel_rfl) (by kernel_rfl) ?_
      all_goals iterate 5 (refine F.g rfl trivial rfl rfl fun K' k' => ?_; simp only [zz, reduceIte, Nat.reduceEqDiff, Nat.reduceLT, Nat.reduceLeDiff, Nat.reduceAdd, reduceCtorEq, Nat.reduceMul, of123_0, ptrV, ho, map2, List.getD_cons_zero]; refine k' _ _ ?_; clear k' K')
      all_goals (refine F.g rfl (by first | rfl | (simp only [stC, ze, reduceIte, Nat.reduceEqDiff, ptrV, ho, map2, List.getD_cons_zero]; done) | (simp only [stC, ze, reduceIte, Nat.reduceEqDiff, ptrV, ho, map2, List.getD_cons_zero]; rfl)) rfl rfl fun K' k' => ?_; simp only [zz, reduceIte, Nat.reduceEqDiff, Nat.reduceLT, Nat.reduceLeDiff, Nat.reduceAdd, reduceCtorEq, Nat.reduceMul, ok24, sz24, ag24, ptrV, ho, map2, List.getD_cons_zero]; refine k' _ _ ?_; clear k' K')
      all_goals (try first | refine F.fork ?_ ?_ | refine F.fork3 ?_ ?_ ?_)
      all_goals first | (refine F.g rfl trivial rfl rfl fun K' k' => ?_; simp only [zz, reduceIte, Nat.reduceEqDiff, Nat.reduceLT, Nat.reduceLeDiff, Nat.reduceAdd, reduceCtorEq, Nat.reduceMul, ptrV, ho, map2, List.getD_cons_zero]; refine PCalls.eqto (clone_part x hx.attrs hx.len) ?_ <;> (refine k' _ _ ?_; clear k' K')) | (refine F.g rfl trivial rfl rfl fun K' k' => ?_; simp only [zz, reduceIte, Nat.reduceEqDiff, Nat.reduceLT, Nat.reduceLeDiff, Nat.reduceAdd, reduceCtorEq, Nat.reduceMul, ok64, sz64, ag64, ptrV, ho, map2, List.getD_cons_zero]; refine k' _ _ ?_; clear k' K')
      all_goals (try first | refine F.fork ?_ ?_ | refine F.fork3 ?_ ?_ ?_)
      all_goals first | (refine F.g rfl trivial rfl rfl fun K' k' => ?_; simp only [zz, reduceIte, Nat.reduceEqDiff, Nat.reduceLT, Nat.reduceLeDiff, Nat.reduceAdd, reduceCtorEq, Nat.reduceMul, ptrV, ho, map2, List.getD_cons_zero]; refine PCalls.eqto (clone_part x hx.attrs hx.len) ?_ <;> (refine k' _ _ ?_; clear k' K')) | (refine F.g rfl trivial rfl rfl fun K' k' => ?_; simp only [zb, reduceIte, Nat.reduceEqDiff, Nat.reduceLT, Nat.reduceLeDiff, Nat.reduceAdd, reduceCtorEq, Nat.reduceMul, sl64, el64, ok24, sz24, ag24, zt24, by24, ptrV, ho, map2, List.getD_cons_zero]; intro k3 hk3 <;> (refine k' _ _ ?_; clear k' K')) | (refine F.g rfl trivial rfl rfl fun K' k' => ?_; simp only [zz, reduceIte, Nat.reduceEqDiff, Nat.reduceLT, Nat.reduceLeDiff, Nat.reduceAdd, reduceCtorEq, Nat.reduceMul, ok64, sz64, ag64, ptrV, ho, map2, List.getD_cons_zero]; refine k' _ _ ?_; clear k' K')
      all_goals first | (refine F.g rfl trivial rfl rfl fun K' k' => ?_; simp only [zb, reduceIte, Nat.reduceEqDiff, Nat.reduceLT, Nat.reduceLeDiff, Nat.reduceAdd, reduceCtorEq, Nat.reduceMul, sl64, el64, ok24, sz24, ag24, zt24, by24, ptrV, ho, map2, List.getD_cons_zero]; intro k3 hk3 <;> (refine k' _ _ ?_; clear k' K')) | (refine F.g rfl trivial rfl rfl fun K' k' => ?_; simp only [zz, reduceIte, Nat.reduceEqDiff, Nat.reduceLT, Nat.reduceLeDiff, Nat.reduceAdd, reduceCtorEq, Nat.reduceMul, ok64, sz64, ag64, ptrV, ho, map2, List.getD_cons_zero]; refine k' _ _ ?_; clear k' K')
      all_goals (refine F.g rfl trivial rfl rfl fun K' k' => ?_; simp only [zz, reduceIte, Nat.reduceEqDiff, Nat.reduceLT, Nat.reduceLeDiff, Nat.reduceAdd, reduceCtorEq, Nat.reduceMul, ptrV, ho, map2, List.getD_cons_zero]; refine ⟨by (first | exact hlv | (simp only [List.all_cons, List.all_nil, hlv]; rfl)), (insert_set hd hk3 hi hn).to fun v σ3 hv => ?_⟩; obtain ⟨kn, rfl, hob, hgr, hfr⟩ := hv; have ho3 := (congrFun hob g).trans ho <;> (refine k' _ _ ?_; clear k' K'))
      all_goals iterate 2 (refine F.g rfl trivial rfl rfl fun K' k' => ?_; simp only [zz, reduceIte, Nat.reduceEqDiff, Nat.reduceLT, Nat.reduceLeDiff, Nat.reduceAdd, reduceCtorEq, Nat.reduceMul, of123_0, ptrV, ho, map2, List.getD_cons_zero]; refine k' _ _ ?_; clear k' K')
      all_goals (refine F.g rfl trivial rfl rfl fun K' k' => ?_; simp only [zz, reduceIte, Nat.reduceEqDiff, Nat.reduceLT, Nat.reduceLeDiff, Nat.reduceAdd, reduceCtorEq, Nat.reduceMul, ok64, sz64, ag64, ptrV, ho, map2, List.getD_cons_zero, ho3, List.length_cons, List.length_nil, true_and] <;> (refine k' _ _ ?_; clear k' K'))
      all_goals refine F.nil ?_
      all_goals simp only [ze, reduceIte, Nat.reduceEqDiff, Nat.reduceLT, Nat.reduceLeDiff, Nat.reduceAdd, reduceCtorEq, Nat.reduceMul, ptrV, ho, map2, List.getD_cons_zero]
      all_goals
        obtain ⟨p1, p2⟩ := PSet.put (g := g) (rows := rows) (rows' := addL rows x) (b := .junk) hob (by rw [hadd]; exact hgr) hfr
        exact ⟨p1, p2⟩
    · have hc2 : b = true := by simpa using hc2
      refine AW.skip ?_
      all_goals simp only [zs, reduceIte, Nat.reduceEqDiff, Nat.reduceLT, Nat.reduceLeDiff, Nat.reduceAdd, reduceCtorEq, Nat.reduceMul]
      refine ⟨?_, .refl _ _⟩
      rw [addL, if_neg (fun h => by rw [← hbh, hc2] at h; cases h.2)]
      exact hs
  rintro s σ' ⟨e6, hps, hfr⟩
  refine AW.seq_k fun K7 h7 => ?_
  all_goals refine AW.reg0 ?_
  all_goals iterate 3 (refine S.g rfl rfl fun K' k' => ?_; simp only [zz, reduceIte, Nat.reduceEqDiff, Nat.reduceAdd, e6]; refine k' _ _ ?_; clear k' K')
  all_goals refine S.nil ?_
  all_goals simp only [ze, reduceIte, Nat.reduceEqDiff, Nat.reduceLT, Nat.reduceLeDiff, Nat.reduceAdd, reduceCtorEq, Nat.reduceMul, e6]
  all_goals apply_assumption
  refine AW.ret ?_
  all_goals simp only [zs, reduceIte, Nat.reduceEqDiff, Nat.reduceLT, Nat.reduceLeDiff, Nat.reduceAdd, reduceCtorEq, Nat.reduceMul]
  refine ⟨?_, hps, hfr⟩
  rw [hbh]; simp [freshL, hc]
end Go.Abs.M
namespace Go.Abs.M
open Go Go.Abs Go.Proofs
set_option maxRecDepth 20000
set_option linter.unusedSimpArgs false
set_option linter.unusedVariables false
/-- The set of some rows. -/
def setL (rows : List (List Bd)) : List (List Bd) := rows.foldl addL []
theorem setL_snoc (l : List (List Bd)) (x : List Bd) : setL (l ++ [x]) = addL (setL l) x := by simp [setL]
theorem setL_take {l : List (List Bd)} {i : Nat} {x : List Bd} (h : l[i]? = some x) : setL (l.take (i + 1)) = addL (setL (l.take i)) x := by
  rw [List.take_add_one, h]
  exact setL_snoc _ _
theorem setL_ind (l : List (List Bd)) : SrtL (setL l) ∧ (setL l).length ≤ l.length ∧ ∀ y ∈ setL l, y ∈ l := by
  rw [← List.reverse_reverse l]
  induction l.reverse with
  | nil => exact ⟨.nil, Nat.le_refl _, fun y h => h⟩
  | cons x r ih =>
    obtain ⟨h1, h2, h3⟩ := ih
    rw [List.reverse_cons, setL_snoc]
    refine ⟨addL_srt h1, ?_, fun y hy => ?_⟩
    · have := addL_len (setL r.reverse) x
      rw [List.length_append, List.length_singleton]; omega
    · rcases addL_mem hy with rfl | h
      · simp
      · exact List.mem_append_left _ (h3 y h)
theorem PSet.frame {g : Nat} {rows : List (List Bd)} {σ σ' : Hp} (h : PSet g rows σ) (ho : σ'.obj g = σ.obj g) (hg : ∀ k, stN g σ = some k → σ'.gr k = σ.gr k) : PSet g rows σ' := by
  rcases h with ⟨e, h⟩ | ⟨k, h, hk⟩
  · exact .inl ⟨e, ho.trans h⟩
  · exact .inr ⟨k, ho.trans h, (hg k (by simp [stN, h])).trans hk⟩
/-- What a new set leaves. -/
structure NewS (g : Nat) (rows : List (List Bd)) (σ σ' : Hp) : Prop where
  new : σ.obj g = none
  set : PSet g rows σ'
  obj : ∀ x, x ≠ g → σ'.obj x = σ.obj x
  gr : ∀ k x, σ.gr k = some x → σ'.gr k = some x ∧ stN g σ' ≠ some k
theorem newSet_spec (rows : List (List Bd)) (σ : Hp) (hr : rows.length * 24 ≤ 140737488355328) (hok : ∀ x ∈ rows, okI x) :
    ACalls Try.prog 42 [.sl (rows.map encP)] σ (fun v σ' => ∃ g, v = ptrV g ∧ NewS g (setL rows) σ σ') := by
  refine ACalls.intro Try.call42 Try.func42 rfl Try.ntmps42 Try.results42 (by simp) ?_
  refine AW.seq_k fun K1 h1 => ?_
  all_goals refine AW.reg0 ?_
  all_goals (refine S.g rfl rfl fun K' k' => ?_; simp only [zz, reduceIte, Nat.reduceEqDiff, Nat.reduceAdd]; refine k' _ _ ?_; clear k' K')
  all_goals refine S.nil ?_
  all_goals simp only [ze, reduceIte, Nat.reduceEqDiff, Nat.reduceLT, Nat.reduceLeDiff, Nat.reduceAdd, reduceCtorEq, Nat.reduceMul]
  all_goals apply_assumption
  refine AW.seq_k fun K2 h2 => ?_
  all_goals refine AW.region (T := { hp := fun d => d == 7 }) (fun _ _ h => by cases h) rfl ?_
  all_goals (refine S.g rfl rfl fun K' k' => ?_; simp only [zz, reduceIte, Nat.reduceEqDiff, Nat.reduceLT, Nat.reduceLeDiff, Nat.reduceAdd, reduceCtorEq, Nat.reduceMul, zt123, pl123]; refine k' _ _ ?_; clear k' K')
  all_goals (refine S.g rfl rfl fun K' k' => ?_; simp only [zz, reduceIte, Nat.reduceEqDiff, Nat.reduceLT, Nat.reduceLeDiff, Nat.reduceAdd, reduceCtorEq, Nat.reduceMul, ok123, sz123, ag123]; intro g hg <;> (refine k' _ _ ?_; clear k' K'))
  all_goals (refine S.g rfl rfl fun K' k' => ?_; simp only [zz, reduceIte, Nat.reduceEqDiff, Nat.reduceAdd]; refine k' _ _ ?_; clear k' K')
  all_goals refine S.nil ?_
  all_goals simp only [ze, reduceIte, Nat.reduceEqDiff, Nat.reduceLT, Nat.reduceLeDiff, Nat.reduceAdd, reduceCtorEq, Nat.reduceMul]
  all_goals apply_assumption
  refine AW.seq_j (fun s σ' => s.t 3 = .c (.pointer (some ⟨g, 0, none⟩)) ∧ NewS g (setL rows) σ σ') ?_ ?_
  · refine AW.seq_k fun K3 h3 => ?_
    all_goals refine AW.reg0 ?_
    all_goals iterate 3 (refine S.g rfl rfl fun K' k' => ?_; simp only [zz, reduceIte, Nat.reduceEqDiff, Nat.reduceLT, Nat.reduceLeDiff, Nat.reduceAdd, reduceCtorEq, Nat.reduceMul, sl64, el64, ok24, sz24, ag24, List.length_map]; refine k' _ _ ?_; clear k' K')
    all_goals refine S.nil ?_
    all_goals simp only [ze, reduceIte, Nat.reduceEqDiff, Nat.reduceLT, Nat.reduceLeDiff, Nat.reduceAdd, reduceCtorEq, Nat.reduceMul, List.length_map]
    all_goals apply_assumption
    refine AW.block ?_   -- 0
    refine AW.loop (fun m s σ' => ∃ i : Nat, m = rows.length - i ∧ i ≤ rows.length ∧ s.t 3 = .c (.pointer (some ⟨g, 0, none⟩)) ∧ s.t 8 = .sl (rows.map encP) ∧ s.t 9 = .c (.int .i64 (rows.length : Nat)) ∧ s.t 10 = .c (.int .i64 (i : Nat)) ∧ NewS g (setL (rows.take i)) σ σ') rows.length ?_ ?_
    · refine ⟨0, by omega, Nat.zero_le _, ?_⟩
      all_goals simp only [zs, reduceIte, Nat.reduceEqDiff, Nat.reduceLT, Nat.reduceLeDiff, Nat.reduceAdd, reduceCtorEq, Nat.reduceMul]
      exact ⟨rfl, ⟨hg, .inl ⟨rfl, by simp⟩, fun x hx => by simp [hx], fun k x hk => ⟨by simpa using hk, by simp [stN]⟩⟩⟩
    rintro m s σ1 ⟨i, hm, hi, e3, e8, e9, e10, hnew⟩
    refine AW.seq_k fun K4 h4 => ?_
    all_goals refine AW.reg0 ?_
    all_goals (refine S.g rfl rfl fun K' k' => ?_; simp only [zz, reduceIte, Nat.reduceEqDiff, Nat.reduceAdd, e9, e10]; refine k' _ _ ?_; clear k' K')
    all_goals refine S.nil ?_
    all_goals simp only [ze, reduceIte, Nat.reduceEqDiff, Nat.reduceLT, Nat.reduceLeDiff, Nat.reduceAdd, reduceCtorEq, Nat.reduceMul, e9, e10]
    all_goals apply_assumption
    refine AW.seq_k fun K5 h5 => ?_
    refine AW.cond (b := decide (i < rows.length)) (by simp [ev]) (fun hc => ?_) (fun hc => ?_)
    · have hc := of_decide_eq_true hc
      refine AW.skip ?_
      all_goals simp only [zs, reduceIte, Nat.reduceEqDiff, Nat.reduceLT, Nat.reduceLeDiff, Nat.reduceAdd, reduceCtorEq, Nat.reduceMul]
      all_goals apply_assumption
      obtain ⟨x, hx⟩ : ∃ x, rows[i]? = some x := ⟨_, List.getElem?_eq_getElem hc⟩
      have hxm := List.mem_of_getElem? hx
      have hxe := encP_gd hx
      have hps := hnew.set
      obtain ⟨hsr, hln, hmm⟩ := setL_ind (rows.take i)
      rw [List.length_take] at hln
      have hn : ((setL (rows.take i)).length + 1) * 24 ≤ 140737488355328 := by omega
      have hll : ∀ y ∈ setL (rows.take i), y.length < 4611686018427387904 := fun y hy => by
        have := (hok y (List.mem_of_mem_take (hmm y hy))).len
        omega
      have hw : IntKind.i64.wrap ((i : Int) + 1) = ((i + 1 : Nat) : Int) := by rw [wrap_small _ (by omega) (by omega)]; rfl
      refine AW.seq_k fun K6 h6 => ?_
      refine AW.block ?_   -- 1
      refine AW.seq_k fun K7 h7 => ?_
      all_goals refine AW.reg0 ?_
      all_goals iterate 4 (refine S.g rfl rfl fun K' k' => ?_; simp only [zz, reduceIte, Nat.reduceEqDiff, Nat.reduceLT, Nat.reduceLeDiff, Nat.reduceAdd, reduceCtorEq, Nat.reduceMul, sl64, el64, ok24, sz24, ag24, zt24, e8, e10, List.length_map, hc, hxe]; refine k' _ _ ?_; clear k' K')
      all_goals refine S.nil ?_
      all_goals simp only [ze, reduceIte, Nat.reduceEqDiff, Nat.reduceLT, Nat.reduceLeDiff, Nat.reduceAdd, reduceCtorEq, Nat.reduceMul, e8, e10, List.length_map, hc, hxe]
      all_goals apply_assumption
      all_goals refine AW.reg0 ?_
      all_goals iterate 2 (refine S.g rfl rfl fun K' k' => ?_; simp only [zz, reduceIte, Nat.reduceEqDiff, Nat.reduceLT, Nat.reduceLeDiff, Nat.reduceAdd, reduceCtorEq, Nat.reduceMul, ok24, sz24, ag24, e3]; refine k' _ _ ?_; clear k' K')
      all_goals (refine S.g rfl rfl fun K' k' => ?_; simp only [zz, reduceIte, Nat.reduceEqDiff, Nat.reduceLT, Nat.reduceLeDiff, Nat.reduceAdd, reduceCtorEq, Nat.reduceMul, e3]; refine (add_spec g (setL (rows.take i)) x _ hps hsr hn hll (hok x hxm)).to fun v σ3 hv => ?_; obtain ⟨rfl, hps3, hfr3⟩ := hv <;> (refine k' _ _ ?_; clear k' K'))
      all_goals refine S.nil ?_
      all_goals simp only [ze, reduceIte, Nat.reduceEqDiff, Nat.reduceLT, Nat.reduceLeDiff, Nat.reduceAdd, reduceCtorEq, Nat.reduceMul, e3]
      all_goals apply_assumption
      all_goals refine AW.reg0 ?_
      all_goals iterate 2 (refine S.g rfl rfl fun K' k' => ?_; simp only [zz, reduceIte, Nat.reduceEqDiff, Nat.reduceAdd, e10, hw]; refine k' _ _ ?_; clear k' K')
      all_goals refine S.nil ?_
      all_goals simp only [ze, reduceIte, Nat.reduceEqDiff, Nat.reduceLT, Nat.reduceLeDiff, Nat.reduceAdd, reduceCtorEq, Nat.reduceMul, e10, hw]
      refine ⟨m - 1, by omega, i + 1, by omega, by omega, ?_⟩
      all_goals simp only [zs, reduceIte, Nat.reduceEqDiff, Nat.reduceLT, Nat.reduceLeDiff, Nat.reduceAdd, reduceCtorEq, Nat.reduceMul, e3, e8, e9, e10]
      refine ⟨hnew.new, ?_, fun z hz => (hfr3.obj z hz).trans (hnew.obj z hz), fun k z hk => ?_⟩
      · rw [setL_take hx]; exact hps3
      · obtain ⟨h1, h2⟩ := hnew.gr k z hk
        exact hfr3.gr k z h1 h2
    · have hc := of_decide_eq_false hc
      refine AW.exit ?_
      all_goals simp only [zs, reduceIte, Nat.reduceEqDiff, Nat.reduceLT, Nat.reduceLeDiff, Nat.reduceAdd, reduceCtorEq, Nat.reduceMul, e3]
      have : i = rows.length := by omega
      subst this
      rw [List.take_length] at hnew
      exact hnew
  rintro s σ1 ⟨e3, hnew⟩
  refine AW.seq_k fun K8 h8 => ?_
  all_goals refine AW.reg0 ?_
  all_goals iterate 2 (refine S.g rfl rfl fun K' k' => ?_; simp only [zz, reduceIte, Nat.reduceEqDiff, Nat.reduceAdd, e3]; refine k' _ _ ?_; clear k' K')
  all_goals refine S.nil ?_
  all_goals simp only [ze, reduceIte, Nat.reduceEqDiff, Nat.reduceLT, Nat.reduceLeDiff, Nat.reduceAdd, reduceCtorEq, Nat.reduceMul, e3]
  all_goals apply_assumption
  refine AW.ret ?_
  all_goals simp only [zs, reduceIte, Nat.reduceEqDiff, Nat.reduceLT, Nat.reduceLeDiff, Nat.reduceAdd, reduceCtorEq, Nat.reduceMul]
  exact ⟨g, rfl, hnew⟩
end Go.Abs.M
namespace Go.Abs.M
open Go Go.Abs Go.Proofs
set_option maxRecDepth 20000
set_option linter.unusedSimpArgs false
set_option linter.unusedVariables false
/-- A partial match that may be cloned. -/
def cloneOk (l : List Bd) : Prop := (∀ b ∈ l, b.ev.attrs.length * 48 ≤ 140737488355328) ∧ l.length * 80 ≤ 140737488355328
theorem encP_at {l : List (List Bd)} {i : Nat} {x : List Bd} (h : l[i]? = some x) : (l.map encP).getD i [] = encP x := by simp [List.getD, h]
theorem encP_len {l : List (List Bd)} : ∀ e : List V, e ∈ l.map encP → e.length = 1 := fun e he => by obtain ⟨x, _, rfl⟩ := List.mem_map.1 he; rfl
theorem imm_attr (a : Attr) : ∀ v : V, v ∈ encAttr a → Imm v := fun v hv => by simp only [encAttr, List.mem_cons, List.not_mem_nil, or_false] at hv; rcases hv with rfl | rfl | rfl | rfl <;> exact .c _
theorem imm_bd (b : Bd) : ∀ v : V, v ∈ encBd b → Imm v := fun v hv => by
  simp only [encBd, List.mem_cons, List.not_mem_nil, or_false] at hv
  rcases hv with rfl | rfl | rfl | rfl | rfl | rfl
  · exact .c _
  · exact .c _
  · exact .c _
  · exact .c _
  · exact .c _
  · exact .sl fun e he v hv => by obtain ⟨x, _, rfl⟩ := List.mem_map.1 he; exact imm_attr x v hv
theorem imm_part (l : List Bd) : Imm (.sl (l.map encBd)) := .sl fun e he v hv => by obtain ⟨x, _, rfl⟩ := List.mem_map.1 he; exact imm_bd x v hv
theorem imm_parts (l : List (List Bd)) : Imm (.sl (l.map encP)) := .sl fun e he v hv => by
  obtain ⟨x, _, rfl⟩ := List.mem_map.1 he
  simp only [encP, List.mem_cons, List.not_mem_nil, or_false] at hv
  rw [hv]; exact imm_part x
/-- The variable that 'All' leaves to its iterator. -/
def capV (rows : List (List Bd)) : V := .ip [[.sl (rows.map encP)]] 0 0
theorem imm_cap (rows : List (List Bd)) : Imm (capV rows) := .ip fun e he v hv => by
  simp only [List.mem_cons, List.not_mem_nil, or_false] at he
  subst he
  simp only [List.mem_cons, List.not_mem_nil, or_false] at hv
  rw [hv]; exact imm_parts rows
def partA (l : List Bd) : V := .agg [.sl (l.map encBd)]
theorem imm_partA (l : List Bd) : Imm (partA l) := .agg fun v hv => by simp only [List.mem_cons, List.not_mem_nil, or_false] at hv; rw [hv]; exact imm_part l
theorem iter_all (rows : List (List Bd)) (hrows : ∀ l ∈ rows, cloneOk l) (hlen : rows.length < 4611686018427387904) : Iter Try.prog 95 [capV rows] (rows.map partA) := by
  refine ⟨Try.call95, fun l W0 I0 cv J Jx hva hIlt hJ hJx hround h0 => ?_⟩
  refine callsIn_of_wp (F := Fence.wide) (n := 0) Try.func95 rfl trivial (wpIn_wide.2 ?_)
  have hcv : cv.length = 1 := hva.1.symm
  have hb := SR.itBegin (n := 17) (k := 15) (W := W0) (I := I0) (args := .fn (.yield l) [] [] :: [capV rows]) (xs := .func (.yield l) #[] #[] :: cv)
    (VAs.cons (.fn (xs := []) (ys := []) rfl (fun i v x h => by cases h) rfl (fun i v x h => by cases h)) hva) (by simp) (by simp [hcv]) (hIlt 0 I0 W0 h0)
  have eargs : (#[Value.func (.yield l) #[] #[]] ++ (⟨cv⟩ : Array Value)) ++ Array.replicate (Try.f95.ntmps - (#[Value.func (.yield l) #[] #[]] ++ (⟨cv⟩ : Array Value)).size) undef = (⟨Value.func (.yield l) #[] #[] :: cv⟩ : Array Value) ++ Array.replicate 15 undef := by
    have : Try.f95.ntmps = 17 := Try.ntmps95
    rw [this]; simp [hcv]
  rw [eargs]
  clear eargs
  have hJ0 := h0
  have hcell : ∀ i, (partA i : V) = .agg [.sl (i.map encBd)] := fun i => rfl
  let R : Ending → World → Prop := fun e W' => (∃ v, e = .returned v) ∧ ((∃ I, J (rows.map partA).length I W') ∨ Jx W')
  have fin : ∀ {B : Base} {cx : Cx} {s : St} {σ : Hp} {a : Act} {w : World}, B.nd = true → SR B 17 cx s σ a w → ((∃ I, J (rows.map partA).length I w) ∨ Jx w) → a.defers = [] ∧ ∃ v, (results Try.f95 a.tmps).run Try.prog w = .ok v w ∧ R (.returned v) w := fun hnd h hj => by
    obtain ⟨v, hv⟩ := h.nothing Try.results95
    exact ⟨h.nd hnd, v, hv, ⟨v, rfl⟩, hj⟩
  refine wp_seq (wp_mono ((wpIn_wide (n := 0)).1 (it_region hb rfl (K := fun s σ => σ = Hp.empty ∧ s.t 0 = .fn (.yield l) [] [] ∧ s.t 5 = .sl (rows.map encP) ∧ s.t 6 = .c (.int .i64 (rows.length : Nat)) ∧ s.t 7 = .c (.int .i64 (0 : Nat))) ?_)) ?_)
  · skip
    all_goals iterate 3 (refine S.g rfl rfl fun K' k' => ?_; simp only [zz, reduceIte, Nat.reduceEqDiff, Nat.reduceLT, Nat.reduceLeDiff, Nat.reduceAdd, reduceCtorEq, Nat.reduceMul, ok64, sz64, ag64, sl64, el64, ok24, sz24, ag24, capV, List.getD_cons_zero]; refine k' _ _ ?_; clear k' K')
    all_goals refine S.nil ?_
    all_goals simp only [ze, reduceIte, Nat.reduceEqDiff, Nat.reduceLT, Nat.reduceLeDiff, Nat.reduceAdd, reduceCtorEq, Nat.reduceMul, capV, List.getD_cons_zero]
    rfl
  rintro e a1 w1 hq
  cases e with
  | normal => ?_
  | _ => exact hq.elim
  obtain ⟨cx1, s1, σ1, h1, rfl, e0, e5, e6, e7⟩ := hq
  obtain ⟨hN, hM⟩ := h1.newer rfl
  have hJ1 := hJ 0 I0 W0 cx1.I w1 h0 hN hM
  have h2 := h1.again (W' := w1) (I' := cx1.I) rfl (fun g hg => ⟨hg, rfl⟩) (fun g hg => h1.heap.ilt g hg)
  clear hb h0 hJ0 hM hN
  refine wp_block ?_
  refine wp_loop_rel (fun m a w => ∃ i cx s, m = rows.length - i ∧ i ≤ rows.length ∧ J i cx.I w ∧ SR (Base.it cx w) 17 cx s Hp.empty a w ∧ s.t 0 = .fn (.yield l) [] [] ∧ s.t 5 = .sl (rows.map encP) ∧ s.t 6 = .c (.int .i64 (rows.length : Nat)) ∧ s.t 7 = .c (.int .i64 (i : Nat)))
    ⟨rows.length, 0, cx1, _, rfl, Nat.zero_le _, hJ1, h2, by simp [keepV, e0], by simp [keepV, e5], by simp [keepV, e6], by simp [keepV, e7]⟩ ?_
  clear h2 hJ1 h1 e0 e5 e6 e7 hva hcv
  rintro m a w ⟨i, cx, s, hm, hi, hji, h, e0, e5, e6, e7⟩
  refine wp_seq (wp_mono ((wpIn_wide (n := 0)).1 (it_region h rfl (K := fun s' σ' => σ' = Hp.empty ∧ s'.t 0 = .fn (.yield l) [] [] ∧ s'.t 5 = .sl (rows.map encP) ∧ s'.t 6 = .c (.int .i64 (rows.length : Nat)) ∧ s'.t 7 = .c (.int .i64 (i : Nat)) ∧ s'.t 8 = .c (.bool (decide (i < rows.length)))) ?_)) ?_)
  · skip
    all_goals (refine S.g rfl rfl fun K' k' => ?_; simp only [zz, reduceIte, Nat.reduceEqDiff, Nat.reduceAdd, e0, e5, e6, e7]; refine k' _ _ ?_; clear k' K')
    all_goals refine S.nil ?_
    all_goals simp only [ze, reduceIte, Nat.reduceEqDiff, Nat.reduceLT, Nat.reduceLeDiff, Nat.reduceAdd, reduceCtorEq, Nat.reduceMul, e0, e5, e6, e7]
    done
  rintro e a2 w2 hq
  cases e with
  | normal => ?_
  | _ => exact hq.elim
  obtain ⟨cx2, s2, σ2, h2, rfl, f0, f5, f6, f7, f8⟩ := hq
  obtain ⟨hN, hM⟩ := h2.newer rfl
  have hj2 := hJ i cx.I w cx2.I w2 hji hN hM
  have hc8 := h2.tr (.tmp 8)
  simp only [ev, f8] at hc8
  refine wp_seq (wp_cond_split hc8.c_eq (fun hc => wp_skip ?_) (fun hc => wp_exit ?_))
  · have hin := of_decide_eq_true hc
    obtain ⟨x, hx⟩ : ∃ x, rows[i]? = some x := ⟨_, List.getElem?_eq_getElem hin⟩
    have hxe := encP_at hx
    have hxs : (rows.map partA)[i]? = some (partA x) := by simp [hx]
    have hwi : IntKind.i64.wrap ((i : Int) + 1) = ((i + 1 : Nat) : Int) := by rw [wrap_small _ (by omega) (by omega)]; rfl
    refine wp_seq (wp_block ?_)
    refine wp_seq (wp_mono ((wpIn_wide (n := 0)).1 (it_region h2 rfl (K := fun s' σ' => σ' = Hp.empty ∧ s'.t 0 = .fn (.yield l) [] [] ∧ s'.t 5 = .sl (rows.map encP) ∧ s'.t 6 = .c (.int .i64 (rows.length : Nat)) ∧ s'.t 7 = .c (.int .i64 (i : Nat)) ∧ s'.t 4 = .lp 4 0 ∧ s'.l 4 = some [.sl (x.map encBd)]) ?_)) ?_)
    · skip
      all_goals iterate 4 (refine S.g rfl rfl fun K' k' => ?_; simp only [zz, reduceIte, Nat.reduceEqDiff, Nat.reduceLT, Nat.reduceLeDiff, Nat.reduceAdd, reduceCtorEq, Nat.reduceMul, sl64, el64, ok24, sz24, ag24, zt24, f0, f5, f6, f7, hin, hxe, encP, List.length_singleton]; refine k' _ _ ?_; clear k' K')
      all_goals refine S.nil ?_
      all_goals simp only [ze, reduceIte, Nat.reduceEqDiff, Nat.reduceLT, Nat.reduceLeDiff, Nat.reduceAdd, reduceCtorEq, Nat.reduceMul, f0, f5, f6, f7, hin, hxe, encP, List.length_singleton]
      done
    rintro e a3 w3 hq
    cases e with
    | normal => ?_
    | _ => exact hq.elim
    obtain ⟨cx3, s3, σ3, h3, rfl, g0, g5, g6, g7, g4, l4⟩ := hq
    refine wp_seq ((wpIn_wide (n := 0)).1 (wpIn_region ?_))
    refine it_part 3 0 2 rfl (by decide) h3 rfl (K := fun s' σ' => σ' = Hp.empty ∧ s'.t 11 = .fn (.yield l) [] [] ∧ s'.t 13 = partA x ∧ s'.t 0 = .fn (.yield l) [] [] ∧ s'.t 5 = .sl (rows.map encP) ∧ s'.t 6 = .c (.int .i64 (rows.length : Nat)) ∧ s'.t 7 = .c (.int .i64 (i : Nat))) ?_ ?_
    · skip
      all_goals iterate 2 (refine S.g rfl rfl fun K' k' => ?_; simp only [zz, reduceIte, Nat.reduceEqDiff, Nat.reduceLT, Nat.reduceLeDiff, Nat.reduceAdd, reduceCtorEq, Nat.reduceMul, ok24, sz24, ag24, g0, g5, g6, g7, g4, l4]; refine k' _ _ ?_; clear k' K')
      all_goals (refine S.g rfl rfl fun K' k' => ?_; simp only [zz, reduceIte, Nat.reduceEqDiff, Nat.reduceLT, Nat.reduceLeDiff, Nat.reduceAdd, reduceCtorEq, Nat.reduceMul, g0, g5, g6, g7, g4, l4]; refine PCalls.eqto (clone_part x (hrows x (List.mem_of_getElem? hx)).1 (hrows x (List.mem_of_getElem? hx)).2) ?_ <;> (refine k' _ _ ?_; clear k' K'))
      all_goals refine S.nil ?_
      all_goals simp only [ze, reduceIte, Nat.reduceEqDiff, Nat.reduceLT, Nat.reduceLeDiff, Nat.reduceAdd, reduceCtorEq, Nat.reduceMul, g0, g5, g6, g7, g4, l4]
      exact rfl
    rintro a4 w4 ⟨cx4, s4, σ4, h4, rfl, k11, k13, k0, k5, k6, k7⟩
    obtain ⟨hN4, hM4⟩ := h4.newer rfl
    have hj4 := hJ i cx.I w cx4.I w4 hji hN4 hM4
    have h11 := h4.tr (.tmp 11)
    have h13 := h4.tr (.tmp 13)
    simp only [ev, k11] at h11
    simp only [ev, k13] at h13
    have hfv : a4.eval (.tmp 11) = .func (.yield l) #[] #[] := by
      generalize a4.eval (.tmp 11) = y at h11
      cases h11 with
      | v h11 =>
        cases h11 with
        | @fn _ _ _ xs1 ys1 hn _ hm _ =>
          obtain rfl : xs1 = [] := List.eq_nil_of_length_eq_zero hn.symm
          obtain rfl : ys1 = [] := List.eq_nil_of_length_eq_zero hm.symm
          rfl
    have hxv : VR w4 cx4 (partA x) (a4.eval (.tmp 13)) := by
      generalize a4.eval (.tmp 13) = y at h13
      cases h13 with
      | v h13 => exact h13
    refine it_yield (i := 3) (q := 1) (f := .tmp 11) (x := .tmp 13) rfl rfl rfl hfv rfl (hround i cx4.I w4 (partA x) _ hj4 hxs (hxv.toIm (imm_partA x))) ?_
    rintro e w5 (⟨rfl, I5, hj5, hsame⟩ | ⟨rfl, hx5⟩)
    · refine ⟨true, rfl, ?_⟩
      have h5 := (h4.again (W' := w5) (I' := I5) rfl hsame (fun g hg => hIlt (i + 1) I5 w5 hj5 g hg)).put (d := 14) (v := .c (.bool true)) (by omega) (.v (.c _))
      have q0 : ((⟨fun t => keepV (s4.t t), fun _ => none⟩ : St).put 14 (.c (.bool true))).t 0 = .fn (.yield l) [] [] := by simp [St.put, keepV, k0]
      have q5 : ((⟨fun t => keepV (s4.t t), fun _ => none⟩ : St).put 14 (.c (.bool true))).t 5 = .sl (rows.map encP) := by simp [St.put, keepV, k5]
      have q6 : ((⟨fun t => keepV (s4.t t), fun _ => none⟩ : St).put 14 (.c (.bool true))).t 6 = .c (.int .i64 (rows.length : Nat)) := by simp [St.put, keepV, k6]
      have q7 : ((⟨fun t => keepV (s4.t t), fun _ => none⟩ : St).put 14 (.c (.bool true))).t 7 = .c (.int .i64 (i : Nat)) := by simp [St.put, keepV, k7]
      have q14 : ((⟨fun t => keepV (s4.t t), fun _ => none⟩ : St).put 14 (.c (.bool true))).t 14 = .c (.bool true) := by simp [St.put]
      generalize (⟨fun t => keepV (s4.t t), fun _ => none⟩ : St).put 14 (.c (.bool true)) = s5 at h5 q0 q5 q6 q7 q14
      refine it_part 1 4 0 rfl (by decide) h5 rfl (K := fun s' σ' => σ' = Hp.empty ∧ s'.t 0 = .fn (.yield l) [] [] ∧ s'.t 5 = .sl (rows.map encP) ∧ s'.t 6 = .c (.int .i64 (rows.length : Nat)) ∧ s'.t 7 = .c (.int .i64 (i : Nat)) ∧ s'.t 15 = .c (.bool false)) ?_ ?_
      · skip
        all_goals (refine S.g rfl rfl fun K' k' => ?_; simp only [zz, reduceIte, Nat.reduceEqDiff, Nat.reduceAdd, q0, q5, q6, q7, q14]; refine k' _ _ ?_; clear k' K')
        all_goals refine S.nil ?_
        all_goals simp only [ze, reduceIte, Nat.reduceEqDiff, Nat.reduceLT, Nat.reduceLeDiff, Nat.reduceAdd, reduceCtorEq, Nat.reduceMul, q0, q5, q6, q7, q14]
        done
      rintro a6 w6 ⟨cx6, s6, σ6, h6, rfl, r0, r5, r6, r7, r15⟩
      obtain ⟨hN6, hM6⟩ := h6.newer rfl
      have hj6 := hJ (i + 1) I5 w5 cx6.I w6 hj5 hN6 hM6
      have hc15 := h6.tr (.tmp 15)
      simp only [ev, r15] at hc15
      refine wp_cond_split hc15.c_eq (fun hc => by cases hc) (fun _ => wp_skip ?_)
      have h7 := h6.again (W' := w6) (I' := cx6.I) rfl (fun g hg => ⟨hg, rfl⟩) (fun g hg => h6.heap.ilt g hg)
      refine wp_mono ((wpIn_wide (n := 0)).1 (it_region h7 rfl (K := fun s' σ' => σ' = Hp.empty ∧ s'.t 0 = .fn (.yield l) [] [] ∧ s'.t 5 = .sl (rows.map encP) ∧ s'.t 6 = .c (.int .i64 (rows.length : Nat)) ∧ s'.t 7 = .c (.int .i64 (i + 1 : Nat))) ?_)) ?_
      · skip
        all_goals iterate 2 (refine S.g rfl rfl fun K' k' => ?_; simp only [zz, reduceIte, Nat.reduceEqDiff, Nat.reduceAdd, r0, r5, r6, r7, hwi, keepV]; refine k' _ _ ?_; clear k' K')
        all_goals refine S.nil ?_
        all_goals simp only [ze, reduceIte, Nat.reduceEqDiff, Nat.reduceLT, Nat.reduceLeDiff, Nat.reduceAdd, reduceCtorEq, Nat.reduceMul, r0, r5, r6, r7, hwi, keepV]
        done
      rintro e a7 w7 hq
      cases e with
      | normal => ?_
      | _ => exact hq.elim
      obtain ⟨cx7, s7, σ7, h8, rfl, u0, u5, u6, u7⟩ := hq
      obtain ⟨hN7, hM7⟩ := h8.newer rfl
      have hj7 := hJ (i + 1) cx6.I w6 cx7.I w7 hj6 hN7 hM7
      have h9 := h8.again (W' := w7) (I' := cx7.I) rfl (fun g hg => ⟨hg, rfl⟩) (fun g hg => h8.heap.ilt g hg)
      exact ⟨rows.length - (i + 1), by omega, i + 1, cx7, _, rfl, by omega, hj7, h9, by simp [keepV, u0], by simp [keepV, u5], by simp [keepV, u6], by simp [keepV, u7]⟩
    · refine ⟨false, rfl, ?_⟩
      have h5 := (h4.stop w5 rfl).put (d := 14) (v := .c (.bool false)) (by omega) (.v (.c _))
      have q14 : ((⟨fun t => keepC (s4.t t), fun _ => none⟩ : St).put 14 (.c (.bool false))).t 14 = .c (.bool false) := by simp [St.put]
      generalize (⟨fun t => keepC (s4.t t), fun _ => none⟩ : St).put 14 (.c (.bool false)) = s5 at h5 q14
      refine it_part 1 4 0 rfl (by decide) h5 rfl (K := fun s' σ' => σ' = Hp.empty ∧ s'.t 15 = .c (.bool true)) ?_ ?_
      · skip
        all_goals (refine S.g rfl rfl fun K' k' => ?_; simp only [zz, reduceIte, Nat.reduceEqDiff, Nat.reduceAdd, q14]; refine k' _ _ ?_; clear k' K')
        all_goals refine S.nil ?_
        all_goals simp only [ze, reduceIte, Nat.reduceEqDiff, Nat.reduceLT, Nat.reduceLeDiff, Nat.reduceAdd, reduceCtorEq, Nat.reduceMul, q14]
        done
      rintro a6 w6 ⟨cx6, s6, σ6, h6, rfl, r15⟩
      obtain ⟨hN6, hM6⟩ := h6.newer rfl
      have hx6 := hJx (fun _ => False) w5 (fun g => False ∨ False) w6 hx5 hN6 ⟨fun _ h => h.elim, fun _ h => (by rcases h with h | h <;> exact h.elim)⟩
      have hc15 := h6.tr (.tmp 15)
      simp only [ev, r15] at hc15
      refine wp_cond_split hc15.c_eq (fun _ => wp_ret ?_) (fun hc => by cases hc)
      exact fin rfl h6 (.inr hx6)
  · have hin := of_decide_eq_false hc
    have hl : i = (rows.map partA).length := by simp; omega
    rw [hl] at hj2
    exact fin rfl h2 (.inl ⟨_, hj2⟩)
end Go.Abs.M
namespace Go.Abs.M
open Go Go.Abs Go.Proofs
set_option maxRecDepth 20000
set_option linter.unusedSimpArgs false
set_option linter.unusedVariables false
theorem hp_ext {σ σ' : Hp} (h1 : ∀ g, σ.obj g = σ'.obj g) (h2 : ∀ k, σ.gr k = σ'.gr k) : σ = σ' := by
  cases σ; cases σ'
  simp only [Hp.mk.injEq]
  exact ⟨funext h1, funext h2⟩
/-- The list that 'All' makes, so far. -/
def AllJ (σ : Hp) (p : Nat) (l : List (List Bd)) (σ1 : Hp) : Prop := (l = [] ∧ σ1 = σ.setObj p (some [.c (.slice none 0 0)])) ∨ ∃ k, σ.gr k = none ∧ σ1 = (σ.setObj p (some [.gl k])).setGr k (some ((24, 1), l.map encP))
theorem AllJ.next {σ σ1 : Hp} {p : Nat} {l : List (List Bd)} (h : AllJ σ p l σ1) : ∃ lv ok, σ1.obj p = some [lv] ∧ isMap [lv] = false ∧ okV lv = true ∧ dstE σ1 24 1 lv = some (ok, l.map encP) ∧ ∀ k2 x, (σ1.delO ok).gr k2 = none → AllJ σ p (l ++ [x]) (((σ1.delO ok).setGr k2 (some ((24, 1), l.map encP ++ [[.sl (x.map encBd)]]))).setObj p (some [.gl k2])) := by
  rcases h with ⟨rfl, rfl⟩ | ⟨k, hk, rfl⟩
  · refine ⟨.c (.slice none 0 0), none, by simp, rfl, rfl, rfl, fun k2 x h2 => .inr ⟨k2, by simpa [Hp.delO] using h2, ?_⟩⟩
    refine hp_ext (fun g => ?_) (fun j => ?_)
    · by_cases e : g = p <;> simp [Hp.delO, Hp.setObj, Hp.setGr, e]
    · by_cases e : j = k2 <;> simp [Hp.delO, Hp.setObj, Hp.setGr, e, encP]
  · refine ⟨.gl k, some k, by simp, rfl, rfl, by simp [dstE, Hp.setGr], fun k2 x h2 => .inr ⟨k2, ?_, ?_⟩⟩
    · by_cases e : k2 = k
      · rw [e]; exact hk
      · simpa [Hp.delO, Hp.setGr, e] using h2
    · refine hp_ext (fun g => ?_) (fun j => ?_)
      · by_cases e : g = p <;> simp [Hp.delO, Hp.setObj, Hp.setGr, e]
      · by_cases e : j = k2
        · simp [Hp.delO, Hp.setObj, Hp.setGr, e, encP]
        · by_cases e2 : j = k
          · simp [Hp.delO, Hp.setObj, Hp.setGr, e, e2]
            rw [← e2]; simp [e]; rw [e2]; exact hk.symm
          · simp [Hp.delO, Hp.setObj, Hp.setGr, e, e2]
theorem AllJ.gr {σ σ1 : Hp} {p : Nat} {l : List (List Bd)} (h : AllJ σ p l σ1) {k : Nat} {x : (TypeId × Nat) × List (List V)} (hk : σ.gr k = some x) : σ1.gr k = some x := by
  rcases h with ⟨rfl, rfl⟩ | ⟨k2, h2, rfl⟩
  · exact hk
  · have : k ≠ k2 := fun e => by rw [e, h2] at hk; cases hk
    simp [Hp.setGr, this, Hp.setObj, hk]
set_option maxHeartbeats 2000000 in
theorem setAll_spec (g : Nat) (rows : List (List Bd)) (σ : Hp) (hs : PSet g rows σ) (hr : rows.length * 24 ≤ 140737488355328) (hok : ∀ x ∈ rows, okI x) :
    ACalls Try.prog 43 [ptrV g] σ (fun v σ' => v = .fn (.func 95) [] [capV rows] ∧ σ' = σ) := by
  refine ACalls.sealF (R := fun v σ' => ∃ p, v = .fn (.func 95) [] [ptrV p] ∧ σ.obj p = none ∧ σ' = σ.setObj p (some [.sl (rows.map encP)])) ?_ ?_
  · refine ACalls.intro Try.call43 Try.func43 rfl Try.ntmps43 Try.results43 (by simp) ?_
    obtain ⟨lv, ho⟩ := hs.ex
    refine AW.seq_k fun K1 h1 => ?_
    all_goals refine AW.reg0 ?_
    all_goals (refine S.g rfl rfl fun K' k' => ?_; simp only [zz, reduceIte, Nat.reduceEqDiff, Nat.reduceAdd]; refine k' _ _ ?_; clear k' K')
    all_goals refine S.nil ?_
    all_goals simp only [ze, reduceIte, Nat.reduceEqDiff, Nat.reduceLT, Nat.reduceLeDiff, Nat.reduceAdd, reduceCtorEq, Nat.reduceMul]
    all_goals apply_assumption
    refine AW.seq_k fun K2 h2 => ?_
    all_goals refine AW.region (T := { hp := fun d => d == 3 }) (fun _ _ h => by cases h) rfl ?_
    all_goals (refine S.g rfl rfl fun K' k' => ?_; simp only [zz, reduceIte, Nat.reduceEqDiff, Nat.reduceLT, Nat.reduceLeDiff, Nat.reduceAdd, reduceCtorEq, Nat.reduceMul, zt64]; intro p hp <;> (refine k' _ _ ?_; clear k' K'))
    all_goals refine S.nil ?_
    all_goals simp only [ze, reduceIte, Nat.reduceEqDiff, Nat.reduceLT, Nat.reduceLeDiff, Nat.reduceAdd, reduceCtorEq, Nat.reduceMul]
    all_goals apply_assumption
    have hpg : g ≠ p := fun e => by rw [e, hp] at ho; cases ho
    refine AW.seq_j (fun s σ' => s.t 3 = .c (.pointer (some ⟨p, 0, none⟩)) ∧ AllJ σ p rows σ') ?_ ?_
    · have ho1 : (σ.setObj p (some [.c (.slice none 0 0)])).obj g = some [lv, .c (.bool true)] := by simp [hpg, ho]
      have hns := none_spec g _ _ ho1
      refine AW.seq_k fun K3 h3 => ?_
      all_goals refine AW.reg0 ?_
      all_goals (refine S.g rfl rfl fun K' k' => ?_; simp only [zz, reduceIte, Nat.reduceEqDiff, Nat.reduceAdd, ptrV]; refine k' _ _ ?_; clear k' K')
      all_goals (refine S.g rfl rfl fun K' k' => ?_; simp only [zz, reduceIte, Nat.reduceEqDiff, Nat.reduceLT, Nat.reduceLeDiff, Nat.reduceAdd, reduceCtorEq, Nat.reduceMul, ptrV]; refine hns.to fun v σ2 hv => ?_; obtain ⟨rfl, rfl⟩ := hv <;> (refine k' _ _ ?_; clear k' K'))
      all_goals (refine S.g rfl rfl fun K' k' => ?_; simp only [zz, reduceIte, Nat.reduceEqDiff, Nat.reduceAdd, ptrV]; refine k' _ _ ?_; clear k' K')
      all_goals refine S.nil ?_
      all_goals simp only [ze, reduceIte, Nat.reduceEqDiff, Nat.reduceLT, Nat.reduceLeDiff, Nat.reduceAdd, reduceCtorEq, Nat.reduceMul, ptrV]
      all_goals apply_assumption
      refine AW.cond (b := true) (by simp [ev]) (fun hc => ?_) (fun hc => by cases hc)
      rcases hs with ⟨rfl, hx1⟩ | ⟨ks, hx1, hks⟩
      · rw [ho] at hx1
        injection hx1 with hx1; injection hx1 with hx1 _; subst hx1
        refine AW.seq_k fun K4 h4 => ?_
        all_goals refine AW.reg0 ?_
        all_goals iterate 6 (refine S.g rfl rfl fun K' k' => ?_; simp only [zz, reduceIte, Nat.reduceEqDiff, Nat.reduceLT, Nat.reduceLeDiff, Nat.reduceAdd, reduceCtorEq, Nat.reduceMul, of123_0, ok64, sz64, ag64, sl64, el64, ok24, sz24, ag24, ptrV, hpg, ho, map2, List.getD_cons_zero]; refine k' _ _ ?_; clear k' K')
        all_goals refine S.nil ?_
        all_goals simp only [ze, reduceIte, Nat.reduceEqDiff, Nat.reduceLT, Nat.reduceLeDiff, Nat.reduceAdd, reduceCtorEq, Nat.reduceMul, ptrV, hpg, ho, map2, List.getD_cons_zero]
        all_goals apply_assumption
        refine AW.block ?_   -- 0
        refine AW.loop (fun m s σ' => m = 0 ∧ s.t 3 = .c (.pointer (some ⟨p, 0, none⟩)) ∧ s.t 13 = .c (.int .i64 (0 : Int)) ∧ s.t 14 = .c (.int .i64 (0 : Int)) ∧ AllJ σ p [] σ') 0 ?_ ?_
        · all_goals simp only [zs, reduceIte, Nat.reduceEqDiff, Nat.reduceLT, Nat.reduceLeDiff, Nat.reduceAdd, reduceCtorEq, Nat.reduceMul]
          exact ⟨rfl, .inl ⟨rfl, rfl⟩⟩
        rintro m s σ1 ⟨hm, e3, e13, e14, hj⟩
        refine AW.seq_k fun K5 h5 => ?_
        all_goals refine AW.reg0 ?_
        all_goals (refine S.g rfl rfl fun K' k' => ?_; simp only [zz, reduceIte, Nat.reduceEqDiff, Nat.reduceAdd, e13, e14]; refine k' _ _ ?_; clear k' K')
        all_goals refine S.nil ?_
        all_goals simp only [ze, reduceIte, Nat.reduceEqDiff, Nat.reduceLT, Nat.reduceLeDiff, Nat.reduceAdd, reduceCtorEq, Nat.reduceMul, e13, e14]
        all_goals apply_assumption
        refine AW.seq_k fun K6 h6 => ?_
        refine AW.cond (b := false) (by simp [ev]) (fun hc => by cases hc) (fun hc => ?_)
        refine AW.exit ?_
        all_goals simp only [zs, reduceIte, Nat.reduceEqDiff, Nat.reduceLT, Nat.reduceLeDiff, Nat.reduceAdd, reduceCtorEq, Nat.reduceMul, e3]
        exact hj
      · rw [ho] at hx1
        injection hx1 with hx1; injection hx1 with hx1 _; subst hx1
        refine AW.seq_k fun K7 h7 => ?_
        all_goals refine AW.reg0 ?_
        all_goals iterate 6 (refine S.g rfl rfl fun K' k' => ?_; simp only [zz, reduceIte, Nat.reduceEqDiff, Nat.reduceLT, Nat.reduceLeDiff, Nat.reduceAdd, reduceCtorEq, Nat.reduceMul, of123_0, ok64, sz64, ag64, sl64, el64, ok24, sz24, ag24, ptrV, hpg, ho, hks, map2, List.getD_cons_zero, List.length_map]; refine k' _ _ ?_; clear k' K')
        all_goals refine S.nil ?_
        all_goals simp only [ze, reduceIte, Nat.reduceEqDiff, Nat.reduceLT, Nat.reduceLeDiff, Nat.reduceAdd, reduceCtorEq, Nat.reduceMul, ptrV, hpg, ho, hks, map2, List.getD_cons_zero, List.length_map]
        all_goals apply_assumption
        refine AW.block ?_   -- 0
        refine AW.loop (fun m s σ' => ∃ i : Nat, m = rows.length - i ∧ i ≤ rows.length ∧ s.t 3 = .c (.pointer (some ⟨p, 0, none⟩)) ∧ s.t 12 = .gl ks ∧ s.t 13 = .c (.int .i64 (rows.length : Nat)) ∧ s.t 14 = .c (.int .i64 (i : Nat)) ∧ AllJ σ p (rows.take i) σ') rows.length ?_ ?_
        · refine ⟨0, by omega, Nat.zero_le _, ?_⟩
          all_goals simp only [zs, reduceIte, Nat.reduceEqDiff, Nat.reduceLT, Nat.reduceLeDiff, Nat.reduceAdd, reduceCtorEq, Nat.reduceMul]
          exact ⟨rfl, .inl ⟨rfl, rfl⟩⟩
        rintro m s σ1 ⟨i, hm, hi, e3, e12, e13, e14, hj⟩
        refine AW.seq_k fun K8 h8 => ?_
        all_goals refine AW.reg0 ?_
        all_goals (refine S.g rfl rfl fun K' k' => ?_; simp only [zz, reduceIte, Nat.reduceEqDiff, Nat.reduceAdd, e13, e14]; refine k' _ _ ?_; clear k' K')
        all_goals refine S.nil ?_
        all_goals simp only [ze, reduceIte, Nat.reduceEqDiff, Nat.reduceLT, Nat.reduceLeDiff, Nat.reduceAdd, reduceCtorEq, Nat.reduceMul, e13, e14]
        all_goals apply_assumption
        refine AW.seq_k fun K9 h9 => ?_
        refine AW.cond (b := decide (i < rows.length)) (by simp [ev]) (fun hc => ?_) (fun hc => ?_)
        · have hc := of_decide_eq_true hc
          refine AW.skip ?_
          all_goals simp only [zs, reduceIte, Nat.reduceEqDiff, Nat.reduceLT, Nat.reduceLeDiff, Nat.reduceAdd, reduceCtorEq, Nat.reduceMul]
          all_goals apply_assumption
          obtain ⟨x, hx⟩ : ∃ x, rows[i]? = some x := ⟨_, List.getElem?_eq_getElem hc⟩
          have hxm := List.mem_of_getElem? hx
          have hxe := encP_gd hx
          have hks1 := hj.gr hks
          obtain ⟨lv, ok, hop, hml, hlv, hd, hnx⟩ := hj.next
          have hw : IntKind.i64.wrap ((i : Int) + 1) = ((i + 1 : Nat) : Int) := by rw [wrap_small _ (by omega) (by omega)]; rfl
          have hlt : (rows.take i).length = i := by rw [List.length_take]; omega
          refine AW.seq_k fun K10 h10 => ?_
          refine AW.block ?_   -- 1
          refine AW.seq_k fun K11 h11 => ?_
          all_goals refine AW.reg0 ?_
          all_goals iterate 4 (refine S.g rfl rfl fun K' k' => ?_; simp only [zz, reduceIte, Nat.reduceEqDiff, Nat.reduceLT, Nat.reduceLeDiff, Nat.reduceAdd, reduceCtorEq, Nat.reduceMul, sl64, el64, ok24, sz24, ag24, zt24, e12, e14, hks1, List.length_map, hc, hxe]; refine k' _ _ ?_; clear k' K')
          all_goals refine S.nil ?_
          all_goals simp only [ze, reduceIte, Nat.reduceEqDiff, Nat.reduceLT, Nat.reduceLeDiff, Nat.reduceAdd, reduceCtorEq, Nat.reduceMul, e12, e14, hks1, List.length_map, hc, hxe]
          all_goals apply_assumption
          all_goals refine AW.drawF (T := { sd := fun d => d == 5 }) (fun _ _ h => by cases h) mixedO (.fork 0 (.st 1 2 (.st 2 2 (.st 3 2 (.st 4 2 (.st 5 2 .nil))))) 1 (.fork 0 (.st 2 2 (.st 3 2 (.st 4 2 (.st 5 2 .nil)))) 2 (.fork 0 (.st 3 2 (.st 4 2 (.st 5 2 .nil))) 3 (.st 0 2 (.st 4 2 (.st 5 2 .nil)))))) rfl (by kernel_rfl) (by kernel_rfl) ?_
          all_goals (try first | refine F.fork ?_ ?_ | refine F.fork3 ?_ ?_ ?_)
          all_goals first | (refine F.g rfl trivial rfl rfl fun K' k' => ?_; simp only [zz, reduceIte, Nat.reduceEqDiff, Nat.reduceLT, Nat.reduceLeDiff, Nat.reduceAdd, reduceCtorEq, Nat.reduceMul, ok64, sz64, ag64, e3, hop, hml, ok64, sz64, ag64, hd, delO_obj, List.length_cons, List.length_nil, List.getD_cons_zero, List.drop_succ_cons, List.drop_nil, true_and]; refine k' _ _ ?_; clear k' K') | (refine F.g rfl trivial rfl rfl fun K' k' => ?_; simp only [zz, reduceIte, Nat.reduceEqDiff, Nat.reduceLT, Nat.reduceLeDiff, Nat.reduceAdd, reduceCtorEq, Nat.reduceMul, ok24, sz24, ag24, e3, hop, hml, ok64, sz64, ag64, hd, delO_obj, List.length_cons, List.length_nil, List.getD_cons_zero, List.drop_succ_cons, List.drop_nil, true_and]; refine k' _ _ ?_; clear k' K')
          all_goals (try first | refine F.fork ?_ ?_ | refine F.fork3 ?_ ?_ ?_)
          all_goals first | (refine F.g rfl trivial rfl rfl fun K' k' => ?_; simp only [zz, reduceIte, Nat.reduceEqDiff, Nat.reduceLT, Nat.reduceLeDiff, Nat.reduceAdd, reduceCtorEq, Nat.reduceMul, e3, hop, hml, ok64, sz64, ag64, hd, delO_obj, List.length_cons, List.length_nil, List.getD_cons_zero, List.drop_succ_cons, List.drop_nil, true_and]; refine PCalls.eqto (clone_part x (hok x hxm).attrs (hok x hxm).len) ?_ <;> (refine k' _ _ ?_; clear k' K')) | (refine F.g rfl trivial rfl rfl fun K' k' => ?_; simp only [zz, reduceIte, Nat.reduceEqDiff, Nat.reduceLT, Nat.reduceLeDiff, Nat.reduceAdd, reduceCtorEq, Nat.reduceMul, ok24, sz24, ag24, e3, hop, hml, ok64, sz64, ag64, hd, delO_obj, List.length_cons, List.length_nil, List.getD_cons_zero, List.drop_succ_cons, List.drop_nil, true_and]; refine k' _ _ ?_; clear k' K') | (refine F.g rfl trivial rfl rfl fun K' k' => ?_; simp only [zz, reduceIte, Nat.reduceEqDiff, Nat.reduceLT, Nat.reduceLeDiff, Nat.reduceAdd, reduceCtorEq, Nat.reduceMul, ok64, sz64, ag64, e3, hop, hml, ok64, sz64, ag64, hd, delO_obj, List.length_cons, List.length_nil, List.getD_cons_zero, List.drop_succ_cons, List.drop_nil, true_and]; refine k' _ _ ?_; clear k' K')
          all_goals (try first | refine F.fork ?_ ?_ | refine F.fork3 ?_ ?_ ?_)
          all_goals first | (refine F.g rfl trivial rfl rfl fun K' k' => ?_; simp only [zz, reduceIte, Nat.reduceEqDiff, Nat.reduceLT, Nat.reduceLeDiff, Nat.reduceAdd, reduceCtorEq, Nat.reduceMul, e3, hop, hml, ok64, sz64, ag64, hd, delO_obj, List.length_cons, List.length_nil, List.getD_cons_zero, List.drop_succ_cons, List.drop_nil, true_and]; refine PCalls.eqto (clone_part x (hok x hxm).attrs (hok x hxm).len) ?_ <;> (refine k' _ _ ?_; clear k' K')) | (refine F.g rfl trivial rfl rfl fun K' k' => ?_; simp only [zz, reduceIte, Nat.reduceEqDiff, Nat.reduceLT, Nat.reduceLeDiff, Nat.reduceAdd, reduceCtorEq, Nat.reduceMul, ok64, sz64, ag64, e3, hop, hml, ok64, sz64, ag64, hd, delO_obj, List.length_cons, List.length_nil, List.getD_cons_zero, List.drop_succ_cons, List.drop_nil, true_and]; refine k' _ _ ?_; clear k' K') | (refine F.g rfl trivial rfl rfl fun K' k' => ?_; simp only [zb, reduceIte, Nat.reduceEqDiff, Nat.reduceLT, Nat.reduceLeDiff, Nat.reduceAdd, reduceCtorEq, Nat.reduceMul, sl64, el64, ok24, sz24, ag24, zt24, by24, e3, hop, hml, ok64, sz64, ag64, hd, delO_obj, List.length_cons, List.length_nil, List.getD_cons_zero, List.drop_succ_cons, List.drop_nil, true_and]; refine k' _ _ ?_; clear k' K')
          all_goals first | (refine F.g rfl trivial rfl rfl fun K' k' => ?_; simp only [zb, reduceIte, Nat.reduceEqDiff, Nat.reduceLT, Nat.reduceLeDiff, Nat.reduceAdd, reduceCtorEq, Nat.reduceMul, sl64, el64, ok24, sz24, ag24, zt24, by24, e3, hop, hml, ok64, sz64, ag64, hd, delO_obj, List.length_cons, List.length_nil, List.getD_cons_zero, List.drop_succ_cons, List.drop_nil, true_and]; refine k' _ _ ?_; clear k' K') | (refine F.g rfl trivial rfl rfl fun K' k' => ?_; simp only [zz, reduceIte, Nat.reduceEqDiff, Nat.reduceLT, Nat.reduceLeDiff, Nat.reduceAdd, reduceCtorEq, Nat.reduceMul, ok64, sz64, ag64, e3, hop, hml, ok64, sz64, ag64, hd, delO_obj, List.length_cons, List.length_nil, List.getD_cons_zero, List.drop_succ_cons, List.drop_nil, true_and]; refine k' _ _ ?_; clear k' K')
          all_goals (refine F.g rfl trivial rfl rfl fun K' k' => ?_; simp only [zz, reduceIte, Nat.reduceEqDiff, Nat.reduceLT, Nat.reduceLeDiff, Nat.reduceAdd, reduceCtorEq, Nat.reduceMul, sl64, el64, ok24, sz24, ag24, zt24, by24, e3, hop, hml, ok64, sz64, ag64, hd, delO_obj, List.length_cons, List.length_nil, List.getD_cons_zero, List.drop_succ_cons, List.drop_nil, true_and]; refine ⟨fun e he => by (simp at he; rw [he]; rfl), by unfold maxLen; simp; omega, by unfold reach; simp; omega, fun k2 hk2 => ?_⟩ <;> (refine k' _ _ ?_; clear k' K'))
          all_goals (refine F.g rfl trivial rfl rfl fun K' k' => ?_; simp only [zz, reduceIte, Nat.reduceEqDiff, Nat.reduceLT, Nat.reduceLeDiff, Nat.reduceAdd, reduceCtorEq, Nat.reduceMul, ok64, sz64, ag64, e3, hop, hml, ok64, sz64, ag64, hd, delO_obj, List.length_cons, List.length_nil, List.getD_cons_zero, List.drop_succ_cons, List.drop_nil, true_and]; refine k' _ _ ?_; clear k' K')
          all_goals refine F.nil ?_
          all_goals simp only [ze, reduceIte, Nat.reduceEqDiff, Nat.reduceLT, Nat.reduceLeDiff, Nat.reduceAdd, reduceCtorEq, Nat.reduceMul, e3, hop, hml, ok64, sz64, ag64, hd, delO_obj, List.length_cons, List.length_nil, List.getD_cons_zero, List.drop_succ_cons, List.drop_nil, true_and]
          all_goals apply_assumption
          all_goals refine AW.reg0 ?_
          all_goals iterate 2 (refine S.g rfl rfl fun K' k' => ?_; simp only [zz, reduceIte, Nat.reduceEqDiff, Nat.reduceAdd, e14, hw]; refine k' _ _ ?_; clear k' K')
          all_goals refine S.nil ?_
          all_goals simp only [ze, reduceIte, Nat.reduceEqDiff, Nat.reduceLT, Nat.reduceLeDiff, Nat.reduceAdd, reduceCtorEq, Nat.reduceMul, e14, hw]
          all_goals
            refine ⟨m - 1, by omega, i + 1, by omega, by omega, ?_⟩
            have hfin := hnx k2 x hk2
            rw [← show rows.take (i + 1) = rows.take i ++ [x] by rw [List.take_add_one, hx]; rfl] at hfin
          all_goals simp only [zs, reduceIte, Nat.reduceEqDiff, Nat.reduceLT, Nat.reduceLeDiff, Nat.reduceAdd, reduceCtorEq, Nat.reduceMul, e3, e12, e13, e14]
          all_goals exact hfin
        · have hc := of_decide_eq_false hc
          refine AW.exit ?_
          all_goals simp only [zs, reduceIte, Nat.reduceEqDiff, Nat.reduceLT, Nat.reduceLeDiff, Nat.reduceAdd, reduceCtorEq, Nat.reduceMul, e3]
          have : i = rows.length := by omega
          subst this
          rw [List.take_length] at hj
          exact hj
    rintro s σ1 ⟨e3, hj⟩
    refine AW.seq_k fun K12 h12 => ?_
    all_goals refine AW.reg0 ?_
    all_goals iterate 2 (refine S.g rfl rfl fun K' k' => ?_; simp only [zz, reduceIte, Nat.reduceEqDiff, Nat.reduceAdd, e3]; refine k' _ _ ?_; clear k' K')
    all_goals refine S.nil ?_
    all_goals simp only [ze, reduceIte, Nat.reduceEqDiff, Nat.reduceLT, Nat.reduceLeDiff, Nat.reduceAdd, reduceCtorEq, Nat.reduceMul, e3]
    all_goals apply_assumption
    rcases hj with ⟨rfl, rfl⟩ | ⟨k, hk, rfl⟩
    · refine AW.nilO (g := p) (cells := [.c (.slice none 0 0)]) (by simp) rfl (AW.ret ?_)
      all_goals simp only [zs, reduceIte, Nat.reduceEqDiff, Nat.reduceLT, Nat.reduceLeDiff, Nat.reduceAdd, reduceCtorEq, Nat.reduceMul]
      refine ⟨p, rfl, hp, ?_⟩
      simp [wk1]
    · refine AW.freezeO (k := k) (g := p) (T := (24, 1)) (es := rows.map encP) (cells := [.gl k]) (by simp) (by simp) rfl (AW.ret ?_)
      all_goals simp only [zs, reduceIte, Nat.reduceEqDiff, Nat.reduceLT, Nat.reduceLeDiff, Nat.reduceAdd, reduceCtorEq, Nat.reduceMul, fzV, fz1, St.fz_t, St.fz_l]
      refine ⟨p, rfl, hp, ?_⟩
      refine hp_ext (fun g => ?_) (fun j => ?_)
      · by_cases e : g = p <;> simp [Hp.setObj, Hp.setGr, e, fz1]
      · by_cases e : j = k
        · simp [Hp.setObj, Hp.setGr, e, hk]
        · simp [Hp.setObj, Hp.setGr, e]
  · rintro v σ' ⟨p, rfl, hp, rfl⟩
    refine ⟨p, [.sl (rows.map encP)], .func 95, rfl, by simp, rfl, by simp, rfl, ?_⟩
    refine hp_ext (fun g => ?_) (fun j => rfl)
    by_cases e : g = p
    · simp [e, hp]
    · simp [e]
end Go.Abs.M
namespace Go.Abs
open Go
section
variable {P : Program}
/-- A call that leaves things of its own behind, of which nobody knows. -/
theorem ACalls.bare {f : FuncId} {args : List V} {R : V → Hp → Prop} {R' : V → Prop} (h : ACalls P f args Hp.empty R) (hr : ∀ v σ', R v σ' → R' v) : PCalls P f args R' :=
  ⟨h.1, fun cx w xs hH ha => (h.2 cx w xs hH ha).mono fun e w' ⟨v, r, cx', σ', h1, h2, h3, h4⟩ =>
    ⟨v, r, cx', Hp.empty, h1, h2, ⟨h3.heap.sub (fun _ _ h => by cases h) (fun _ _ h => by cases h), ⟨h3.ext.os, h3.ext.tape, h3.ext.output, h3.ext.size, h3.ext.block, h3.ext.le, h3.ext.inew, fun g hg => (own_empty hg).elim⟩, fun k x hk => (by cases hk), fun g x hx => (by cases hx)⟩, rfl, hr v σ' h4⟩⟩
end
end Go.Abs
namespace Go.Abs
open Go
section
variable {P : Program} {σ : Hp}
/-- A call that keeps all there was: what is new is forgotten. -/
theorem ACalls.keepH {f : FuncId} {args : List V} {R R' : V → Hp → Prop} (h : ACalls P f args σ R)
    (hr : ∀ v σ', R v σ' → (∀ g c, σ.obj g = some c → σ'.obj g = some c) ∧ (∀ k x, σ.gr k = some x → σ'.gr k = some x) ∧ R' v σ) : ACalls P f args σ R' :=
  ⟨h.1, fun cx w xs hH ha => (h.2 cx w xs hH ha).mono fun e w' ⟨v, r, cx', σ', h1, h2, h3, h4⟩ => by
    obtain ⟨ho, hg, hR⟩ := hr v σ' h4
    exact ⟨v, r, cx', σ, h1, h2, ⟨h3.heap.sub ho hg, ⟨h3.ext.os, h3.ext.tape, h3.ext.output, h3.ext.size, h3.ext.block, h3.ext.le, h3.ext.inew, fun g hg' => h3.ext.fnew g (own_sub ho hg hg')⟩, fun k x hk => .inl ⟨x, hk⟩, fun g x hx => .inl ⟨x, hx⟩⟩, hR⟩⟩
end
end Go.Abs
namespace Go.Abs.M
open Go Go.Abs Go.Proofs
set_option maxRecDepth 20000
set_option linter.unusedSimpArgs false
set_option linter.unusedVariables false
theorem isMap_sl (x : List (List V)) : isMap [.sl x] = false := rfl
theorem isMap_c (x : Value) : isMap [.c x] = false := rfl
theorem hasL_get {rows : List (List Bd)} {x y : List Bd} {i : Nat} (h : rows[i]? = some y) (hc : cmpL y x = 0) : hasL rows x = true := List.any_eq_true.2 ⟨y, List.mem_of_getElem? h, by simp [hc]⟩
theorem hasL_no {rows : List (List Bd)} {x : List Bd} (h : ∀ (j : Nat) (y : List Bd), rows[j]? = some y → cmpL y x ≠ 0) : hasL rows x = false := by
  cases e : hasL rows x with
  | false => rfl
  | true =>
    obtain ⟨y, hy, hc⟩ := List.any_eq_true.1 e
    obtain ⟨j, hj⟩ := List.getElem?_of_mem hy
    exact absurd (by simpa using hc) (h j y hj)
theorem rhas_spec (g : Nat) (rows : List (List Bd)) (x : List Bd) (σ : Hp) (ho : σ.obj g = some [.sl (rows.map encP)]) (hr : rows.length * 24 ≤ 140737488355328) (hl : ∀ y ∈ rows, y.length < 4611686018427387904) :
    ACalls Try.prog 50 [ptrV g, .agg [.sl (x.map encBd)]] σ (fun v σ' => v = .c (.bool (hasL rows x)) ∧ σ' = σ) := by
  refine ACalls.intro Try.call50 Try.func50 rfl Try.ntmps50 Try.results50 (by simp) ?_
  refine AW.seq_k fun K1 h1 => ?_
  all_goals refine AW.reg0 ?_
  all_goals iterate 2 (refine S.g rfl rfl fun K' k' => ?_; simp only [zz, reduceIte, Nat.reduceEqDiff, Nat.reduceLT, Nat.reduceLeDiff, Nat.reduceAdd, reduceCtorEq, Nat.reduceMul, ok24, sz24, ag24]; refine k' _ _ ?_; clear k' K')
  all_goals refine S.nil ?_
  all_goals simp only [ze, reduceIte, Nat.reduceEqDiff, Nat.reduceLT, Nat.reduceLeDiff, Nat.reduceAdd, reduceCtorEq, Nat.reduceMul]
  all_goals apply_assumption
  refine AW.seq_j (fun s σ' => σ' = σ ∧ hasL rows x = false) ?_ ?_
  · refine AW.seq_k fun K2 h2 => ?_
    all_goals refine AW.reg0 ?_
    all_goals (refine S.g rfl rfl fun K' k' => ?_; simp only [zz, reduceIte, Nat.reduceEqDiff, Nat.reduceAdd, ptrV]; refine k' _ _ ?_; clear k' K')
    all_goals refine S.nil ?_
    all_goals simp only [ze, reduceIte, Nat.reduceEqDiff, Nat.reduceLT, Nat.reduceLeDiff, Nat.reduceAdd, reduceCtorEq, Nat.reduceMul, ptrV]
    all_goals apply_assumption
    refine AW.block ?_   -- 0
    refine AW.loop (fun m s σ' => σ' = σ ∧ ∃ i : Nat, m = rows.length - i ∧ i ≤ rows.length ∧ s.t 0 = .c (.pointer (some ⟨g, 0, none⟩)) ∧ s.t 3 = .lp 3 0 ∧ s.l 3 = some [.sl (x.map encBd)] ∧ s.t 5 = .c (.int .i64 (i : Nat)) ∧ ∀ (j : Nat) (y : List Bd), rows[j]? = some y → j < i → cmpL y x ≠ 0) rows.length ?_ ?_
    · refine ⟨rfl, 0, by omega, Nat.zero_le _, ?_⟩
      all_goals simp only [zs, reduceIte, Nat.reduceEqDiff, Nat.reduceLT, Nat.reduceLeDiff, Nat.reduceAdd, reduceCtorEq, Nat.reduceMul]
      exact ⟨rfl, fun j y _ h => by omega⟩
    rintro m s σ' ⟨rfl, i, hm, hi, e0, e3, l3, e5, hno⟩
    refine AW.seq_k fun K3 h3 => ?_
    refine AW.seq_k fun K4 h4 => ?_
    all_goals refine AW.reg0 ?_
    all_goals iterate 7 (refine S.g rfl rfl fun K' k' => ?_; simp only [zz, reduceIte, Nat.reduceEqDiff, Nat.reduceLT, Nat.reduceLeDiff, Nat.reduceAdd, reduceCtorEq, Nat.reduceMul, of76_0, ok64, sz64, ag64, sl64, el64, ok24, sz24, ag24, e0, e5, ho, isMap_sl, List.getD_cons_zero, List.length_map]; refine k' _ _ ?_; clear k' K')
    all_goals refine S.nil ?_
    all_goals simp only [ze, reduceIte, Nat.reduceEqDiff, Nat.reduceLT, Nat.reduceLeDiff, Nat.reduceAdd, reduceCtorEq, Nat.reduceMul, e0, e5, ho, isMap_sl, List.getD_cons_zero, List.length_map]
    all_goals apply_assumption
    refine AW.cond (b := decide (i < rows.length)) (by simp [ev]) (fun hc => ?_) (fun hc => ?_)
    · have hc := of_decide_eq_true hc
      refine AW.skip ?_
      all_goals simp only [zs, reduceIte, Nat.reduceEqDiff, Nat.reduceLT, Nat.reduceLeDiff, Nat.reduceAdd, reduceCtorEq, Nat.reduceMul]
      all_goals apply_assumption
      obtain ⟨y, hy⟩ : ∃ y, rows[i]? = some y := ⟨_, List.getElem?_eq_getElem hc⟩
      have hyl := hl y (List.mem_of_getElem? hy)
      have hye := encP_gd hy
      have hw : IntKind.i64.wrap ((i : Int) + 1) = ((i + 1 : Nat) : Int) := by rw [wrap_small _ (by omega) (by omega)]; rfl
      refine AW.seq_k fun K5 h5 => ?_
      refine AW.block ?_   -- 1
      refine AW.seq_k fun K6 h6 => ?_
      all_goals refine AW.drawF (T := { sd := fun d => d == 3 }) (fun _ _ h => by cases h) mixedO (.st 0 0 (.st 1 0 (.st 2 0 (.st 4 0 (.st 7 1 (.st 3 2 (.st 5 0 (.st 6 1 (.st 8 2 (.st 9 0 .nil)))))))))) rfl (by kernel_rfl) (by kernel_rfl) ?_
      all_goals iterate 4 (refine F.g rfl trivial rfl rfl fun K' k' => ?_; simp only [zz, reduceIte, Nat.reduceEqDiff, Nat.reduceLT, Nat.reduceLeDiff, Nat.reduceAdd, reduceCtorEq, Nat.reduceMul, of76_0, e0, e3, l3, e5, ho, isMap_sl, List.getD_cons_zero, List.length_map, hc, hye]; refine k' _ _ ?_; clear k' K')
      all_goals (refine F.g rfl (by first | rfl | (simp only [stC, ze, reduceIte, Nat.reduceEqDiff, e0, e3, l3, e5, ho, isMap_sl, List.getD_cons_zero, List.length_map, hc, hye]; done) | (simp only [stC, ze, reduceIte, Nat.reduceEqDiff, e0, e3, l3, e5, ho, isMap_sl, List.getD_cons_zero, List.length_map, hc, hye]; rfl)) rfl rfl fun K' k' => ?_; simp only [zz, reduceIte, Nat.reduceEqDiff, Nat.reduceLT, Nat.reduceLeDiff, Nat.reduceAdd, reduceCtorEq, Nat.reduceMul, ok24, sz24, ag24, e0, e3, l3, e5, ho, isMap_sl, List.getD_cons_zero, List.length_map, hc, hye]; refine k' _ _ ?_; clear k' K')
      all_goals iterate 2 (refine F.g rfl trivial rfl rfl fun K' k' => ?_; simp only [zz, reduceIte, Nat.reduceEqDiff, Nat.reduceLT, Nat.reduceLeDiff, Nat.reduceAdd, reduceCtorEq, Nat.reduceMul, ok64, sz64, ag64, sl64, el64, ok24, sz24, ag24, e0, e3, l3, e5, ho, isMap_sl, List.getD_cons_zero, List.length_map, hc, hye]; refine k' _ _ ?_; clear k' K')
      all_goals (refine F.g rfl (by first | rfl | (simp only [stC, ze, reduceIte, Nat.reduceEqDiff, e0, e3, l3, e5, ho, isMap_sl, List.getD_cons_zero, List.length_map, hc, hye]; done) | (simp only [stC, ze, reduceIte, Nat.reduceEqDiff, e0, e3, l3, e5, ho, isMap_sl, List.getD_cons_zero, List.length_map, hc, hye]; rfl)) rfl rfl fun K' k' => ?_; simp only [zz, reduceIte, Nat.reduceEqDiff, Nat.reduceLT, Nat.reduceLeDiff, Nat.reduceAdd, reduceCtorEq, Nat.reduceMul, ok24, sz24, ag24, e0, e3, l3, e5, ho, isMap_sl, List.getD_cons_zero, List.length_map, hc, hye]; refine k' _ _ ?_; clear k' K')
      all_goals (refine F.g rfl trivial rfl rfl fun K' k' => ?_; simp only [zz, reduceIte, Nat.reduceEqDiff, Nat.reduceLT, Nat.reduceLeDiff, Nat.reduceAdd, reduceCtorEq, Nat.reduceMul, e0, e3, l3, e5, ho, isMap_sl, List.getD_cons_zero, List.length_map, hc, hye]; refine PCalls.eqto (rcompare_part y x hyl) ?_ <;> (refine k' _ _ ?_; clear k' K'))
      all_goals (refine F.g rfl trivial rfl rfl fun K' k' => ?_; simp only [zz, reduceIte, Nat.reduceEqDiff, Nat.reduceAdd, e0, e3, l3, e5, ho, isMap_sl, List.getD_cons_zero, List.length_map, hc, hye]; refine k' _ _ ?_; clear k' K')
      all_goals refine F.nil ?_
      all_goals simp only [ze, reduceIte, Nat.reduceEqDiff, Nat.reduceLT, Nat.reduceLeDiff, Nat.reduceAdd, reduceCtorEq, Nat.reduceMul, e0, e3, l3, e5, ho, isMap_sl, List.getD_cons_zero, List.length_map, hc, hye]
      all_goals apply_assumption
      refine AW.cond (b := cmpL y x == 0) (by simp [ev]) (fun hc2 => ?_) (fun hc2 => ?_)
      · have hc2 : cmpL y x = 0 := by simpa using hc2
        refine AW.seq_k fun K7 h7 => ?_
        all_goals refine AW.reg0 ?_
        all_goals (refine S.g rfl rfl fun K' k' => ?_; simp only [zz, reduceIte, Nat.reduceEqDiff, Nat.reduceAdd]; refine k' _ _ ?_; clear k' K')
        all_goals refine S.nil ?_
        all_goals simp only [ze, reduceIte, Nat.reduceEqDiff, Nat.reduceLT, Nat.reduceLeDiff, Nat.reduceAdd, reduceCtorEq, Nat.reduceMul]
        all_goals apply_assumption
        refine AW.ret ?_
        all_goals simp only [zs, reduceIte, Nat.reduceEqDiff, Nat.reduceLT, Nat.reduceLeDiff, Nat.reduceAdd, reduceCtorEq, Nat.reduceMul]
        rw [hasL_get hy hc2]
      · have hc2 : cmpL y x ≠ 0 := by simpa using hc2
        refine AW.skip ?_
        all_goals simp only [zs, reduceIte, Nat.reduceEqDiff, Nat.reduceLT, Nat.reduceLeDiff, Nat.reduceAdd, reduceCtorEq, Nat.reduceMul]
        all_goals apply_assumption
        all_goals refine AW.reg0 ?_
        all_goals iterate 3 (refine S.g rfl rfl fun K' k' => ?_; simp only [zz, reduceIte, Nat.reduceEqDiff, Nat.reduceAdd, e5, hw]; refine k' _ _ ?_; clear k' K')
        all_goals refine S.nil ?_
        all_goals simp only [ze, reduceIte, Nat.reduceEqDiff, Nat.reduceLT, Nat.reduceLeDiff, Nat.reduceAdd, reduceCtorEq, Nat.reduceMul, e5, hw]
        refine ⟨m - 1, by omega, i + 1, by omega, by omega, ?_⟩
        all_goals simp only [zs, reduceIte, Nat.reduceEqDiff, Nat.reduceLT, Nat.reduceLeDiff, Nat.reduceAdd, reduceCtorEq, Nat.reduceMul, e0, e3, l3, e5]
        intro j z hz hj
        rcases Nat.lt_or_ge j i with h | h
        · exact hno j z hz h
        · obtain rfl : j = i := by omega
          rw [hy] at hz; injection hz with hz; subst hz; exact hc2
    · have hc := of_decide_eq_false hc
      refine AW.exit ?_
      all_goals simp only [zs, reduceIte, Nat.reduceEqDiff, Nat.reduceLT, Nat.reduceLeDiff, Nat.reduceAdd, reduceCtorEq, Nat.reduceMul]
      exact hasL_no fun j y hy => hno j y hy (by have := (List.getElem?_eq_some_iff.1 hy).1; omega)
  rintro s σ' ⟨rfl, hno⟩
  refine AW.seq_k fun K8 h8 => ?_
  all_goals refine AW.reg0 ?_
  all_goals (refine S.g rfl rfl fun K' k' => ?_; simp only [zz, reduceIte, Nat.reduceEqDiff, Nat.reduceAdd]; refine k' _ _ ?_; clear k' K')
  all_goals refine S.nil ?_
  all_goals simp only [ze, reduceIte, Nat.reduceEqDiff, Nat.reduceLT, Nat.reduceLeDiff, Nat.reduceAdd, reduceCtorEq, Nat.reduceMul]
  all_goals apply_assumption
  refine AW.ret ?_
  all_goals simp only [zs, reduceIte, Nat.reduceEqDiff, Nat.reduceLT, Nat.reduceLeDiff, Nat.reduceAdd, reduceCtorEq, Nat.reduceMul]
  rw [hno]
end Go.Abs.M
namespace Go.Abs.M
open Go Go.Abs Go.Proofs
set_option maxRecDepth 20000
set_option linter.unusedSimpArgs false
set_option linter.unusedVariables false
set_option maxHeartbeats 2000000 in
theorem radd_spec (g : Nat) (rows : List (List Bd)) (x : List Bd) (σ : Hp) (ho : σ.obj g = some [.sl (rows.map encP)]) (ht : SrtL rows) (hn : (rows.length + 1) * 24 ≤ 140737488355328) (hl : ∀ y ∈ rows, y.length < 4611686018427387904) (hx : okI x) :
    ACalls Try.prog 52 [ptrV g, .agg [.sl (x.map encBd)]] σ (fun v σ' => v = .c (.bool (freshL rows x)) ∧ σ' = σ.setObj g (some [.sl ((addL rows x).map encP)])) := by
  refine ACalls.intro Try.call52 Try.func52 rfl Try.ntmps52 Try.results52 (by simp) ?_
  have hh := rhas_spec g rows x σ ho (by omega) hl
  refine AW.seq_k fun K1 h1 => ?_
  all_goals refine AW.reg0 ?_
  all_goals iterate 2 (refine S.g rfl rfl fun K' k' => ?_; simp only [zz, reduceIte, Nat.reduceEqDiff, Nat.reduceLT, Nat.reduceLeDiff, Nat.reduceAdd, reduceCtorEq, Nat.reduceMul, ok24, sz24, ag24]; refine k' _ _ ?_; clear k' K')
  all_goals refine S.nil ?_
  all_goals simp only [ze, reduceIte, Nat.reduceEqDiff, Nat.reduceLT, Nat.reduceLeDiff, Nat.reduceAdd, reduceCtorEq, Nat.reduceMul]
  all_goals apply_assumption
  refine AW.seq_j (fun s σ' => σ' = σ ∧ freshL rows x = true ∧ s.t 0 = .c (.pointer (some ⟨g, 0, none⟩)) ∧ s.t 3 = .lp 3 0 ∧ s.l 3 = some [.sl (x.map encBd)]) ?_ ?_
  · refine AW.seq_j (fun s σ' => σ' = σ ∧ s.t 14 = .c (.bool (!freshL rows x)) ∧ s.t 0 = .c (.pointer (some ⟨g, 0, none⟩)) ∧ s.t 3 = .lp 3 0 ∧ s.l 3 = some [.sl (x.map encBd)]) ?_ ?_
    · by_cases hc : partErr x = 0
      · have hd : (partErr x != 0) = false := by simp [hc]
        all_goals refine AW.reg0 ?_
        all_goals (refine S.g rfl rfl fun K' k' => ?_; simp only [zz, reduceIte, Nat.reduceEqDiff, Nat.reduceLT, Nat.reduceLeDiff, Nat.reduceAdd, reduceCtorEq, Nat.reduceMul, ok24, sz24, ag24, ptrV, hd]; refine k' _ _ ?_; clear k' K')
        all_goals (refine S.g rfl rfl fun K' k' => ?_; simp only [zz, reduceIte, Nat.reduceEqDiff, Nat.reduceLT, Nat.reduceLeDiff, Nat.reduceAdd, reduceCtorEq, Nat.reduceMul, ptrV, hd]; refine PCalls.eqto (rcheck_part x hx.ok) ?_ <;> (refine k' _ _ ?_; clear k' K'))
        all_goals (refine S.g rfl rfl fun K' k' => ?_; simp only [zz, reduceIte, Nat.reduceEqDiff, Nat.reduceLT, Nat.reduceLeDiff, Nat.reduceAdd, reduceCtorEq, Nat.reduceMul, ptrV, hd]; refine S.bool fun b a9 => ?_; cases b <;> (try (exfalso; first | exact Bool.noConfusion a9 | (have h := of_decide_eq_true a9; omega) | (have h := of_decide_eq_false a9; omega))) <;> (refine k' _ _ ?_; clear k' K'))
        all_goals (refine S.g rfl rfl fun K' k' => ?_; simp only [zz, reduceIte, Nat.reduceEqDiff, Nat.reduceAdd, ptrV, hd]; refine k' _ _ ?_; clear k' K')
        all_goals iterate 2 (first | (refine S.y rfl rfl rfl rfl fun K' k' => ?_; simp only [zz, reduceIte, Nat.reduceEqDiff, Nat.reduceLT, Nat.reduceLeDiff, Nat.reduceAdd, reduceCtorEq, Nat.reduceMul, ok24, sz24, ag24, ptrV, hd]; refine k' _ _ ?_; clear k' K') | ((first | refine S.x rfl rfl rfl rfl fun K' k' => ?_ | refine S.u rfl rfl rfl rfl fun K' k' => ?_); simp only [ze, reduceIte, Nat.reduceEqDiff]; refine k' _ _ ?_; clear k' K'))
        all_goals (first | (refine S.y rfl rfl rfl rfl fun K' k' => ?_; simp only [zz, reduceIte, Nat.reduceEqDiff, Nat.reduceLT, Nat.reduceLeDiff, Nat.reduceAdd, reduceCtorEq, Nat.reduceMul, ptrV, hd]; refine hh.to fun v σ2 hv => ?_; obtain ⟨rfl, rfl⟩ := hv <;> (refine k' _ _ ?_; clear k' K')) | ((first | refine S.x rfl rfl rfl rfl fun K' k' => ?_ | refine S.u rfl rfl rfl rfl fun K' k' => ?_); simp only [ze, reduceIte, Nat.reduceEqDiff]; refine k' _ _ ?_; clear k' K'))
        all_goals (refine S.g rfl rfl fun K' k' => ?_; simp only [zz, reduceIte, Nat.reduceEqDiff, Nat.reduceAdd, ptrV, hd]; refine k' _ _ ?_; clear k' K')
        all_goals refine S.nil ?_
        all_goals simp only [ze, reduceIte, Nat.reduceEqDiff, Nat.reduceLT, Nat.reduceLeDiff, Nat.reduceAdd, reduceCtorEq, Nat.reduceMul, ptrV, hd]
        simp [freshL, hc]
      · have hd : (partErr x != 0) = true := by simp [hc]
        all_goals refine AW.reg0 ?_
        all_goals (refine S.g rfl rfl fun K' k' => ?_; simp only [zz, reduceIte, Nat.reduceEqDiff, Nat.reduceLT, Nat.reduceLeDiff, Nat.reduceAdd, reduceCtorEq, Nat.reduceMul, ok24, sz24, ag24, ptrV, hd]; refine k' _ _ ?_; clear k' K')
        all_goals (refine S.g rfl rfl fun K' k' => ?_; simp only [zz, reduceIte, Nat.reduceEqDiff, Nat.reduceLT, Nat.reduceLeDiff, Nat.reduceAdd, reduceCtorEq, Nat.reduceMul, ptrV, hd]; refine PCalls.eqto (rcheck_part x hx.ok) ?_ <;> (refine k' _ _ ?_; clear k' K'))
        all_goals (refine S.g rfl rfl fun K' k' => ?_; simp only [zz, reduceIte, Nat.reduceEqDiff, Nat.reduceLT, Nat.reduceLeDiff, Nat.reduceAdd, reduceCtorEq, Nat.reduceMul, ptrV, hd]; refine S.bool fun b a9 => ?_; cases b <;> (try (exfalso; first | exact Bool.noConfusion a9 | (have h := of_decide_eq_true a9; omega) | (have h := of_decide_eq_false a9; omega))) <;> (refine k' _ _ ?_; clear k' K'))
        all_goals (refine S.g rfl rfl fun K' k' => ?_; simp only [zz, reduceIte, Nat.reduceEqDiff, Nat.reduceAdd, ptrV, hd]; refine k' _ _ ?_; clear k' K')
        all_goals iterate 2 (first | (refine S.y rfl rfl rfl rfl fun K' k' => ?_; simp only [zz, reduceIte, Nat.reduceEqDiff, Nat.reduceLT, Nat.reduceLeDiff, Nat.reduceAdd, reduceCtorEq, Nat.reduceMul, ok24, sz24, ag24, ptrV, hd]; refine k' _ _ ?_; clear k' K') | ((first | refine S.x rfl rfl rfl rfl fun K' k' => ?_ | refine S.u rfl rfl rfl rfl fun K' k' => ?_); simp only [ze, reduceIte, Nat.reduceEqDiff]; refine k' _ _ ?_; clear k' K'))
        all_goals (first | (refine S.y rfl rfl rfl rfl fun K' k' => ?_; simp only [zz, reduceIte, Nat.reduceEqDiff, Nat.reduceLT, Nat.reduceLeDiff, Nat.reduceAdd, reduceCtorEq, Nat.reduceMul, ptrV, hd]; refine hh.to fun v σ2 hv => ?_; obtain ⟨rfl, rfl⟩ := hv <;> (refine k' _ _ ?_; clear k' K')) | ((first | refine S.x rfl rfl rfl rfl fun K' k' => ?_ | refine S.u rfl rfl rfl rfl fun K' k' => ?_); simp only [ze, reduceIte, Nat.reduceEqDiff]; refine k' _ _ ?_; clear k' K'))
        all_goals (refine S.g rfl rfl fun K' k' => ?_; simp only [zz, reduceIte, Nat.reduceEqDiff, Nat.reduceAdd, ptrV, hd]; refine k' _ _ ?_; clear k' K')
        all_goals refine S.nil ?_
        all_goals simp only [ze, reduceIte, Nat.reduceEqDiff, Nat.reduceLT, Nat.reduceLeDiff, Nat.reduceAdd, reduceCtorEq, Nat.reduceMul, ptrV, hd]
        simp [freshL, hc]
    rintro s σ' ⟨rfl, e14, e0, e3, l3⟩
    refine AW.cond (b := !freshL rows x) e14 (fun hc => ?_) (fun hc => ?_)
    · have hc : freshL rows x = false := by simpa using hc
      refine AW.seq_k fun K2 h2 => ?_
      all_goals refine AW.reg0 ?_
      all_goals (refine S.g rfl rfl fun K' k' => ?_; simp only [zz, reduceIte, Nat.reduceEqDiff, Nat.reduceAdd]; refine k' _ _ ?_; clear k' K')
      all_goals refine S.nil ?_
      all_goals simp only [ze, reduceIte, Nat.reduceEqDiff, Nat.reduceLT, Nat.reduceLeDiff, Nat.reduceAdd, reduceCtorEq, Nat.reduceMul]
      all_goals apply_assumption
      refine AW.ret ?_
      all_goals simp only [zs, reduceIte, Nat.reduceEqDiff, Nat.reduceLT, Nat.reduceLeDiff, Nat.reduceAdd, reduceCtorEq, Nat.reduceMul]
      have hno : ¬ (partErr x = 0 ∧ hasL rows x = false) := fun h => by simp [freshL, h.1, h.2] at hc
      rw [addL, if_neg hno, hc]
      exact ⟨rfl, (hp_ext (fun z => by by_cases e : z = g <;> simp [e, ho]) (fun _ => rfl))⟩
    · refine AW.skip ⟨rfl, by simpa using hc, e0, e3, l3⟩
  rintro s σ' ⟨rfl, hf, e0, e3, l3⟩
  have hf' : partErr x = 0 ∧ hasL rows x = false := by simpa [freshL] using hf
  refine AW.seq_k fun K3 h3 => ?_
  all_goals refine AW.reg0 ?_
  all_goals (refine S.g rfl rfl fun K' k' => ?_; simp only [zz, reduceIte, Nat.reduceEqDiff, Nat.reduceAdd]; refine k' _ _ ?_; clear k' K')
  all_goals refine S.nil ?_
  all_goals simp only [ze, reduceIte, Nat.reduceEqDiff, Nat.reduceLT, Nat.reduceLeDiff, Nat.reduceAdd, reduceCtorEq, Nat.reduceMul]
  all_goals apply_assumption
  refine AW.seq_j (fun s σ2 => σ2 = σ' ∧ s.t 0 = .c (.pointer (some ⟨g, 0, none⟩)) ∧ s.t 3 = .lp 3 0 ∧ s.l 3 = some [.sl (x.map encBd)] ∧ ∃ i : Nat, i ≤ rows.length ∧ s.t 5 = .c (.int .i64 (i : Nat)) ∧ AtL rows x i) ?_ ?_
  · refine AW.block ?_   -- 0
    refine AW.loop (fun m s σ2 => σ2 = σ' ∧ ∃ i : Nat, m = rows.length - i ∧ i ≤ rows.length ∧ s.t 0 = .c (.pointer (some ⟨g, 0, none⟩)) ∧ s.t 3 = .lp 3 0 ∧ s.l 3 = some [.sl (x.map encBd)] ∧ s.t 5 = .c (.int .i64 (i : Nat)) ∧ ∀ (j : Nat) (y : List Bd), rows[j]? = some y → j < i → cmpL y x < 0) rows.length ?_ ?_
    · refine ⟨rfl, 0, by omega, Nat.zero_le _, ?_⟩
      all_goals simp only [zs, reduceIte, Nat.reduceEqDiff, Nat.reduceLT, Nat.reduceLeDiff, Nat.reduceAdd, reduceCtorEq, Nat.reduceMul, e0, e3, l3]
      exact ⟨rfl, fun j y _ h => by omega⟩
    rintro m s σ2 ⟨rfl, i, hm, hi, e0, e3, l3, e5, hlo⟩
    refine AW.seq_k fun K4 h4 => ?_
    by_cases hin : i < rows.length
    · obtain ⟨y, hy⟩ : ∃ y, rows[i]? = some y := ⟨_, List.getElem?_eq_getElem hin⟩
      have hyl := hl y (List.mem_of_getElem? hy)
      have hye := encP_gd hy
      have hdt : decide ((i : Int) < (rows.length : Int)) = true := by simp; omega
      have hw : IntKind.i64.wrap ((i : Int) + 1) = ((i + 1 : Nat) : Int) := by rw [wrap_small _ (by omega) (by omega)]; rfl
      refine AW.seq_k fun K5 h5 => ?_
      all_goals refine AW.drawF (T := { sd := fun d => d == 3 }) (fun _ _ h => by cases h) mixedO (.st 0 0 (.st 1 0 (.st 2 0 (.st 3 0 (.st 4 2 (.st 5 0 (.st 6 0 (.st 7 0 (.st 8 0 (.st 9 0 (.st 10 0 (.st 12 0 (.st 15 1 (.st 11 2 (.st 13 0 (.st 14 1 (.st 16 2 (.st 17 0 (.st 18 0 .nil))))))))))))))))))) rfl (by kernel_rfl) (by kernel_rfl) ?_
      all_goals iterate 6 (refine F.g rfl trivial rfl rfl fun K' k' => ?_; simp only [zz, reduceIte, Nat.reduceEqDiff, Nat.reduceLT, Nat.reduceLeDiff, Nat.reduceAdd, reduceCtorEq, Nat.reduceMul, of76_0, ok64, sz64, ag64, sl64, el64, ok24, sz24, ag24, e0, e3, l3, e5, ho, isMap_sl, List.getD_cons_zero, List.length_map, hdt, hin, hye]; refine k' _ _ ?_; clear k' K')
      all_goals (refine F.g rfl trivial rfl rfl fun K' k' => ?_; simp only [zz, reduceIte, Nat.reduceEqDiff, Nat.reduceLT, Nat.reduceLeDiff, Nat.reduceAdd, reduceCtorEq, Nat.reduceMul, e0, e3, l3, e5, ho, isMap_sl, List.getD_cons_zero, List.length_map, hdt, hin, hye]; refine S.bool fun b a21 => ?_; cases b <;> (try (exfalso; first | exact Bool.noConfusion a21 | (have h := of_decide_eq_true a21; omega) | (have h := of_decide_eq_false a21; omega))) <;> (refine k' _ _ ?_; clear k' K'))
      all_goals (refine F.g rfl trivial rfl rfl fun K' k' => ?_; simp only [zz, reduceIte, Nat.reduceEqDiff, Nat.reduceAdd, e0, e3, l3, e5, ho, isMap_sl, List.getD_cons_zero, List.length_map, hdt, hin, hye]; refine k' _ _ ?_; clear k' K')
      all_goals iterate 4 (first | (refine F.y rfl trivial rfl rfl rfl rfl fun K' k' => ?_; simp only [zz, reduceIte, Nat.reduceEqDiff, Nat.reduceLT, Nat.reduceLeDiff, Nat.reduceAdd, reduceCtorEq, Nat.reduceMul, of76_0, e0, e3, l3, e5, ho, isMap_sl, List.getD_cons_zero, List.length_map, hdt, hin, hye]; refine k' _ _ ?_; clear k' K') | ((first | refine F.x rfl (fun h => by cases h) rfl rfl rfl rfl fun K' k' => ?_ | refine F.u rfl (fun h => by cases h) rfl rfl rfl rfl fun K' k' => ?_); simp only [ze, reduceIte, Nat.reduceEqDiff]; refine k' _ _ ?_; clear k' K'))
      all_goals (first | (refine F.y rfl (by first | rfl | (simp only [stC, ze, reduceIte, Nat.reduceEqDiff, e0, e3, l3, e5, ho, isMap_sl, List.getD_cons_zero, List.length_map, hdt, hin, hye]; done) | (simp only [stC, ze, reduceIte, Nat.reduceEqDiff, e0, e3, l3, e5, ho, isMap_sl, List.getD_cons_zero, List.length_map, hdt, hin, hye]; rfl)) rfl rfl rfl rfl fun K' k' => ?_; simp only [zz, reduceIte, Nat.reduceEqDiff, Nat.reduceLT, Nat.reduceLeDiff, Nat.reduceAdd, reduceCtorEq, Nat.reduceMul, ok24, sz24, ag24, e0, e3, l3, e5, ho, isMap_sl, List.getD_cons_zero, List.length_map, hdt, hin, hye]; refine k' _ _ ?_; clear k' K') | ((first | refine F.x rfl (fun _ => rfl) rfl rfl rfl rfl fun K' k' => ?_ | refine F.u rfl (fun _ => rfl) rfl rfl rfl rfl fun K' k' => ?_); simp only [ze, reduceIte, Nat.reduceEqDiff]; refine k' _ _ ?_; clear k' K'))
      all_goals iterate 2 (first | (refine F.y rfl trivial rfl rfl rfl rfl fun K' k' => ?_; simp only [zz, reduceIte, Nat.reduceEqDiff, Nat.reduceLT, Nat.reduceLeDiff, Nat.reduceAdd, reduceCtorEq, Nat.reduceMul, ok64, sz64, ag64, sl64, el64, ok24, sz24, ag24, e0, e3, l3, e5, ho, isMap_sl, List.getD_cons_zero, List.length_map, hdt, hin, hye]; refine k' _ _ ?_; clear k' K') | ((first | refine F.x rfl (fun h => by cases h) rfl rfl rfl rfl fun K' k' => ?_ | refine F.u rfl (fun h => by cases h) rfl rfl rfl rfl fun K' k' => ?_); simp only [ze, reduceIte, Nat.reduceEqDiff]; refine k' _ _ ?_; clear k' K'))
      all_goals (first | (refine F.y rfl (by first | rfl | (simp only [stC, ze, reduceIte, Nat.reduceEqDiff, e0, e3, l3, e5, ho, isMap_sl, List.getD_cons_zero, List.length_map, hdt, hin, hye]; done) | (simp only [stC, ze, reduceIte, Nat.reduceEqDiff, e0, e3, l3, e5, ho, isMap_sl, List.getD_cons_zero, List.length_map, hdt, hin, hye]; rfl)) rfl rfl rfl rfl fun K' k' => ?_; simp only [zz, reduceIte, Nat.reduceEqDiff, Nat.reduceLT, Nat.reduceLeDiff, Nat.reduceAdd, reduceCtorEq, Nat.reduceMul, ok24, sz24, ag24, e0, e3, l3, e5, ho, isMap_sl, List.getD_cons_zero, List.length_map, hdt, hin, hye]; refine k' _ _ ?_; clear k' K') | ((first | refine F.x rfl (fun _ => rfl) rfl rfl rfl rfl fun K' k' => ?_ | refine F.u rfl (fun _ => rfl) rfl rfl rfl rfl fun K' k' => ?_); simp only [ze, reduceIte, Nat.reduceEqDiff]; refine k' _ _ ?_; clear k' K'))
      all_goals (first | (refine F.y rfl trivial rfl rfl rfl rfl fun K' k' => ?_; simp only [zz, reduceIte, Nat.reduceEqDiff, Nat.reduceLT, Nat.reduceLeDiff, Nat.reduceAdd, reduceCtorEq, Nat.reduceMul, e0, e3, l3, e5, ho, isMap_sl, List.getD_cons_zero, List.length_map, hdt, hin, hye]; refine PCalls.eqto (rcompare_part y x hyl) ?_ <;> (refine k' _ _ ?_; clear k' K')) | ((first | refine F.x rfl (fun h => by cases h) rfl rfl rfl rfl fun K' k' => ?_ | refine F.u rfl (fun h => by cases h) rfl rfl rfl rfl fun K' k' => ?_); simp only [ze, reduceIte, Nat.reduceEqDiff]; refine k' _ _ ?_; clear k' K'))
      all_goals (first | (refine F.y rfl trivial rfl rfl rfl rfl fun K' k' => ?_; simp only [zz, reduceIte, Nat.reduceEqDiff, Nat.reduceAdd, e0, e3, l3, e5, ho, isMap_sl, List.getD_cons_zero, List.length_map, hdt, hin, hye]; refine k' _ _ ?_; clear k' K') | ((first | refine F.x rfl (fun h => by cases h) rfl rfl rfl rfl fun K' k' => ?_ | refine F.u rfl (fun h => by cases h) rfl rfl rfl rfl fun K' k' => ?_); simp only [ze, reduceIte, Nat.reduceEqDiff]; refine k' _ _ ?_; clear k' K'))
      all_goals (refine F.g rfl trivial rfl rfl fun K' k' => ?_; simp only [zz, reduceIte, Nat.reduceEqDiff, Nat.reduceAdd, e0, e3, l3, e5, ho, isMap_sl, List.getD_cons_zero, List.length_map, hdt, hin, hye]; refine k' _ _ ?_; clear k' K')
      all_goals refine F.nil ?_
      all_goals simp only [ze, reduceIte, Nat.reduceEqDiff, Nat.reduceLT, Nat.reduceLeDiff, Nat.reduceAdd, reduceCtorEq, Nat.reduceMul, e0, e3, l3, e5, ho, isMap_sl, List.getD_cons_zero, List.length_map, hdt, hin, hye]
      all_goals apply_assumption
      refine AW.cond (b := decide (cmpL y x < 0)) (by simp [ev]) (fun hc2 => ?_) (fun hc2 => ?_)
      · have hc2 := of_decide_eq_true hc2
        refine AW.skip ?_
        all_goals simp only [zs, reduceIte, Nat.reduceEqDiff, Nat.reduceLT, Nat.reduceLeDiff, Nat.reduceAdd, reduceCtorEq, Nat.reduceMul]
        all_goals apply_assumption
        refine AW.block ?_   -- 1
        all_goals refine AW.reg0 ?_
        all_goals iterate 3 (refine S.g rfl rfl fun K' k' => ?_; simp only [zz, reduceIte, Nat.reduceEqDiff, Nat.reduceAdd, e5, hw]; refine k' _ _ ?_; clear k' K')
        all_goals refine S.nil ?_
        all_goals simp only [ze, reduceIte, Nat.reduceEqDiff, Nat.reduceLT, Nat.reduceLeDiff, Nat.reduceAdd, reduceCtorEq, Nat.reduceMul, e5, hw]
        refine ⟨m - 1, by omega, i + 1, by omega, by omega, ?_⟩
        all_goals simp only [zs, reduceIte, Nat.reduceEqDiff, Nat.reduceLT, Nat.reduceLeDiff, Nat.reduceAdd, reduceCtorEq, Nat.reduceMul, e0, e3, l3, e5]
        intro j z hz hj
        rcases Nat.lt_or_ge j i with h | h
        · exact hlo j z hz h
        · obtain rfl : j = i := by omega
          rw [hy] at hz; injection hz with hz; subst hz; exact hc2
      · have hc2 := of_decide_eq_false hc2
        refine AW.exit ?_
        all_goals simp only [zs, reduceIte, Nat.reduceEqDiff, Nat.reduceLT, Nat.reduceLeDiff, Nat.reduceAdd, reduceCtorEq, Nat.reduceMul, e0, e3, l3, e5]
        refine ⟨i, hi, rfl, hlo, fun j z hz hj => ?_⟩
        rcases Nat.lt_or_ge i j with h | h
        · by_cases k : 0 ≤ cmpL z x
          · exact k
          · have := tri_L.lt_le (ht.get hy hz h) (by omega : cmpL z x ≤ 0)
            omega
        · obtain rfl : j = i := by omega
          rw [hy] at hz; injection hz with hz; subst hz; omega
    · have hdt : decide ((i : Int) < (rows.length : Int)) = false := by simp; omega
      refine AW.seq_k fun K6 h6 => ?_
      all_goals refine AW.drawF (T := { sd := fun d => d == 3 }) (fun _ _ h => by cases h) mixedO (.st 0 0 (.st 1 0 (.st 2 0 (.st 3 0 (.st 4 2 (.st 5 0 (.st 6 0 (.st 7 0 (.st 8 0 (.st 9 0 (.st 10 0 (.st 12 0 (.st 15 1 (.st 11 2 (.st 13 0 (.st 14 1 (.st 16 2 (.st 17 0 (.st 18 0 .nil))))))))))))))))))) rfl (by kernel_rfl) (by kernel_rfl) ?_
      all_goals iterate 6 (refine F.g rfl trivial rfl rfl fun K' k' => ?_; simp only [zz, reduceIte, Nat.reduceEqDiff, Nat.reduceLT, Nat.reduceLeDiff, Nat.reduceAdd, reduceCtorEq, Nat.reduceMul, of76_0, ok64, sz64, ag64, sl64, el64, ok24, sz24, ag24, e0, e3, l3, e5, ho, isMap_sl, List.getD_cons_zero, List.length_map, hdt]; refine k' _ _ ?_; clear k' K')
      all_goals (refine F.g rfl trivial rfl rfl fun K' k' => ?_; simp only [zz, reduceIte, Nat.reduceEqDiff, Nat.reduceLT, Nat.reduceLeDiff, Nat.reduceAdd, reduceCtorEq, Nat.reduceMul, e0, e3, l3, e5, ho, isMap_sl, List.getD_cons_zero, List.length_map, hdt]; refine S.bool fun b a21 => ?_; cases b <;> (try (exfalso; first | exact Bool.noConfusion a21 | (have h := of_decide_eq_true a21; omega) | (have h := of_decide_eq_false a21; omega))) <;> (refine k' _ _ ?_; clear k' K'))
      all_goals (refine F.g rfl trivial rfl rfl fun K' k' => ?_; simp only [zz, reduceIte, Nat.reduceEqDiff, Nat.reduceAdd, e0, e3, l3, e5, ho, isMap_sl, List.getD_cons_zero, List.length_map, hdt]; refine k' _ _ ?_; clear k' K')
      all_goals iterate 4 (first | (refine F.y rfl trivial rfl rfl rfl rfl fun K' k' => ?_; simp only [zz, reduceIte, Nat.reduceEqDiff, Nat.reduceLT, Nat.reduceLeDiff, Nat.reduceAdd, reduceCtorEq, Nat.reduceMul, of76_0, e0, e3, l3, e5, ho, isMap_sl, List.getD_cons_zero, List.length_map, hdt]; refine k' _ _ ?_; clear k' K') | ((first | refine F.x rfl (fun h => by cases h) rfl rfl rfl rfl fun K' k' => ?_ | refine F.u rfl (fun h => by cases h) rfl rfl rfl rfl fun K' k' => ?_); simp only [ze, reduceIte, Nat.reduceEqDiff]; refine k' _ _ ?_; clear k' K'))
      all_goals (first | (refine F.y rfl (by first | rfl | (simp only [stC, ze, reduceIte, Nat.reduceEqDiff, e0, e3, l3, e5, ho, isMap_sl, List.getD_cons_zero, List.length_map, hdt]; done) | (simp only [stC, ze, reduceIte, Nat.reduceEqDiff, e0, e3, l3, e5, ho, isMap_sl, List.getD_cons_zero, List.length_map, hdt]; rfl)) rfl rfl rfl rfl fun K' k' => ?_; simp only [zz, reduceIte, Nat.reduceEqDiff, Nat.reduceLT, Nat.reduceLeDiff, Nat.reduceAdd, reduceCtorEq, Nat.reduceMul, ok24, sz24, ag24, e0, e3, l3, e5, ho, isMap_sl, List.getD_cons_zero, List.length_map, hdt]; refine k' _ _ ?_; clear k' K') | ((first | refine F.x rfl (fun _ => rfl) rfl rfl rfl rfl fun K' k' => ?_ | refine F.u rfl (fun _ => rfl) rfl rfl rfl rfl fun K' k' => ?_); simp only [ze, reduceIte, Nat.reduceEqDiff]; refine k' _ _ ?_; clear k' K'))
      all_goals iterate 2 (first | (refine F.y rfl trivial rfl rfl rfl rfl fun K' k' => ?_; simp only [zz, reduceIte, Nat.reduceEqDiff, Nat.reduceLT, Nat.reduceLeDiff, Nat.reduceAdd, reduceCtorEq, Nat.reduceMul, ok64, sz64, ag64, sl64, el64, ok24, sz24, ag24, e0, e3, l3, e5, ho, isMap_sl, List.getD_cons_zero, List.length_map, hdt]; refine k' _ _ ?_; clear k' K') | ((first | refine F.x rfl (fun h => by cases h) rfl rfl rfl rfl fun K' k' => ?_ | refine F.u rfl (fun h => by cases h) rfl rfl rfl rfl fun K' k' => ?_); simp only [ze, reduceIte, Nat.reduceEqDiff]; refine k' _ _ ?_; clear k' K'))
      all_goals (first | (refine F.y rfl (by first | rfl | (simp only [stC, ze, reduceIte, Nat.reduceEqDiff, e0, e3, l3, e5, ho, isMap_sl, List.getD_cons_zero, List.length_map, hdt]; done) | (simp only [stC, ze, reduceIte, Nat.reduceEqDiff, e0, e3, l3, e5, ho, isMap_sl, List.getD_cons_zero, List.length_map, hdt]; rfl)) rfl rfl rfl rfl fun K' k' => ?_; simp only [zz, reduceIte, Nat.reduceEqDiff, Nat.reduceLT, Nat.reduceLeDiff, Nat.reduceAdd, reduceCtorEq, Nat.reduceMul, ok24, sz24, ag24, e0, e3, l3, e5, ho, isMap_sl, List.getD_cons_zero, List.length_map, hdt]; refine k' _ _ ?_; clear k' K') | ((first | refine F.x rfl (fun _ => rfl) rfl rfl rfl rfl fun K' k' => ?_ | refine F.u rfl (fun _ => rfl) rfl rfl rfl rfl fun K' k' => ?_); simp only [ze, reduceIte, Nat.reduceEqDiff]; refine k' _ _ ?_; clear k' K'))
      all_goals (first | (refine F.y rfl trivial rfl rfl rfl rfl fun K' k' => ?_; simp only [zz, reduceIte, Nat.reduceEqDiff, Nat.reduceLT, Nat.reduceLeDiff, Nat.reduceAdd, reduceCtorEq, Nat.reduceMul, e0, e3, l3, e5, ho, isMap_sl, List.getD_cons_zero, List.length_map, hdt]; refine PCalls.eqto (rcompare_part y x hyl) ?_ <;> (refine k' _ _ ?_; clear k' K')) | ((first | refine F.x rfl (fun h => by cases h) rfl rfl rfl rfl fun K' k' => ?_ | refine F.u rfl (fun h => by cases h) rfl rfl rfl rfl fun K' k' => ?_); simp only [ze, reduceIte, Nat.reduceEqDiff]; refine k' _ _ ?_; clear k' K'))
      all_goals (first | (refine F.y rfl trivial rfl rfl rfl rfl fun K' k' => ?_; simp only [zz, reduceIte, Nat.reduceEqDiff, Nat.reduceAdd, e0, e3, l3, e5, ho, isMap_sl, List.getD_cons_zero, List.length_map, hdt]; refine k' _ _ ?_; clear k' K') | ((first | refine F.x rfl (fun h => by cases h) rfl rfl rfl rfl fun K' k' => ?_ | refine F.u rfl (fun h => by cases h) rfl rfl rfl rfl fun K' k' => ?_); simp only [ze, reduceIte, Nat.reduceEqDiff]; refine k' _ _ ?_; clear k' K'))
      all_goals (refine F.g rfl trivial rfl rfl fun K' k' => ?_; simp only [zz, reduceIte, Nat.reduceEqDiff, Nat.reduceAdd, e0, e3, l3, e5, ho, isMap_sl, List.getD_cons_zero, List.length_map, hdt]; refine k' _ _ ?_; clear k' K')
      all_goals refine F.nil ?_
      all_goals simp only [ze, reduceIte, Nat.reduceEqDiff, Nat.reduceLT, Nat.reduceLeDiff, Nat.reduceAdd, reduceCtorEq, Nat.reduceMul, e0, e3, l3, e5, ho, isMap_sl, List.getD_cons_zero, List.length_map, hdt]
      all_goals apply_assumption
      refine AW.cond (b := false) (by simp [ev]) (fun hc => by cases hc) (fun hc => ?_)
      refine AW.exit ?_
      all_goals simp only [zs, reduceIte, Nat.reduceEqDiff, Nat.reduceLT, Nat.reduceLeDiff, Nat.reduceAdd, reduceCtorEq, Nat.reduceMul, e0, e3, l3, e5]
      exact ⟨i, hi, rfl, hlo, fun j z hz hj => by have := (List.getElem?_eq_some_iff.1 hz).1; omega⟩
  rintro s σ2 ⟨rfl, e0, e3, l3, i, hi, e5, hat⟩
  have hadd : addL rows x = rows.take i ++ x :: rows.drop i := by rw [addL, if_pos hf', hat.ins hi]
  rw [hf, hadd]
  have hto0 : Int.toNat 0 = 0 := rfl
  refine AW.seq_j (fun s σ3 => s.t 0 = .c (.pointer (some ⟨g, 0, none⟩)) ∧ s.t 3 = .lp 3 0 ∧ s.l 3 = some [.sl (x.map encBd)] ∧ s.t 5 = .c (.int .i64 (i : Nat)) ∧ ∃ ka, s.t 6 = .gl ka ∧ σ2.gr ka = none ∧ σ3 = σ2.setGr ka (some ((24, 1), (rows.take i).map encP))) ?_ ?_
  · skip
    all_goals refine AW.reg0 ?_
    all_goals iterate 5 (refine S.g rfl rfl fun K' k' => ?_; simp only [zz, reduceIte, Nat.reduceEqDiff, Nat.reduceLT, Nat.reduceLeDiff, Nat.reduceAdd, reduceCtorEq, Nat.reduceMul, of76_0, ok64, sz64, ag64, e0, e5, ho, isMap_sl, List.getD_cons_zero, hto0, List.drop_zero, Nat.sub_zero]; refine k' _ _ ?_; clear k' K')
    all_goals (refine S.g rfl rfl fun K' k' => ?_; simp only [zz, reduceIte, Nat.reduceEqDiff, Nat.reduceLT, Nat.reduceLeDiff, Nat.reduceAdd, reduceCtorEq, Nat.reduceMul, sl64, el64, ok24, sz24, ag24, e0, e5, ho, isMap_sl, List.getD_cons_zero, hto0, List.drop_zero, Nat.sub_zero]; refine ⟨by omega, hi, encP_len, ?_⟩ <;> (refine k' _ _ ?_; clear k' K'))
    all_goals (refine S.g rfl rfl fun K' k' => ?_; simp only [zz, reduceIte, Nat.reduceEqDiff, Nat.reduceLT, Nat.reduceLeDiff, Nat.reduceAdd, reduceCtorEq, Nat.reduceMul, sl64, el64, ok24, sz24, ag24, zt24, by24, e0, e5, ho, isMap_sl, List.getD_cons_zero, hto0, List.drop_zero, Nat.sub_zero]; refine ⟨fun e he => encP_len e (List.mem_of_mem_take he), by unfold maxLen; simp; omega, by unfold reach; simp; omega, fun ka hka => ?_⟩ <;> (refine k' _ _ ?_; clear k' K'))
    all_goals (refine S.g rfl rfl fun K' k' => ?_; simp only [zz, reduceIte, Nat.reduceEqDiff, Nat.reduceAdd, e0, e5, ho, isMap_sl, List.getD_cons_zero, hto0, List.drop_zero, Nat.sub_zero]; refine k' _ _ ?_; clear k' K')
    all_goals refine S.nil ?_
    all_goals simp only [ze, reduceIte, Nat.reduceEqDiff, Nat.reduceLT, Nat.reduceLeDiff, Nat.reduceAdd, reduceCtorEq, Nat.reduceMul, e0, e5, ho, isMap_sl, List.getD_cons_zero, hto0, List.drop_zero, Nat.sub_zero]
    all_goals simp only [zs, reduceIte, Nat.reduceEqDiff, Nat.reduceLT, Nat.reduceLeDiff, Nat.reduceAdd, reduceCtorEq, Nat.reduceMul, e0, e3, l3, e5]
    exact ⟨ka, rfl, hka, by simp [Hp.delO]⟩
  rintro s σ3 ⟨e0, e3, l3, e5, ka, e6, hka, rfl⟩
  refine AW.seq_j (fun s σ3 => ∃ kc, σ2.gr kc = none ∧ σ3 = (σ2.setObj g (some [.gl kc])).setGr kc (some ((24, 1), (rows.take i ++ x :: rows.drop i).map encP))) ?_ ?_
  · have htk : ((rows.map encP).drop i).take (rows.length - i) = (rows.drop i).map encP := by
      rw [← List.map_drop, List.take_of_length_le (by simp)]
    all_goals refine AW.drawF (T := { sd := fun d => d == 3 }) (fun _ _ h => by cases h) mixedO (.st 0 0 (.st 1 0 (.st 6 0 (.st 7 0 (.st 8 0 (.st 10 0 (.st 2 1 (.fork 3 (.fork 4 (.fork 5 (.st 9 2 (.st 11 2 (.st 12 2 (.st 13 0 (.st 14 0 (.st 15 2 .nil)))))) 9 (.fork 5 (.st 11 2 (.st 12 2 (.st 13 0 (.st 14 0 (.st 15 2 .nil))))) 11 (.st 5 2 (.st 12 2 (.st 13 0 (.st 14 0 (.st 15 2 .nil))))))) 9 (.fork 4 (.fork 5 (.st 11 2 (.st 12 2 (.st 13 0 (.st 14 0 (.st 15 2 .nil))))) 11 (.st 5 2 (.st 12 2 (.st 13 0 (.st 14 0 (.st 15 2 .nil)))))) 11 (.st 4 2 (.st 5 2 (.st 12 2 (.st 13 0 (.st 14 0 (.st 15 2 .nil)))))))) 9 (.fork 3 (.fork 4 (.fork 5 (.st 11 2 (.st 12 2 (.st 13 0 (.st 14 0 (.st 15 2 .nil))))) 11 (.st 5 2 (.st 12 2 (.st 13 0 (.st 14 0 (.st 15 2 .nil)))))) 11 (.st 4 2 (.st 5 2 (.st 12 2 (.st 13 0 (.st 14 0 (.st 15 2 .nil))))))) 11 (.st 3 2 (.st 4 2 (.st 5 2 (.st 12 2 (.st 13 0 (.st 14 0 (.st 15 2 .nil)))))))))))))))) rfl (by kernel_rfl) (by kernel_rfl) ?_
    all_goals iterate 6 (refine F.g rfl trivial rfl rfl fun K' k' => ?_; simp only [zz, reduceIte, Nat.reduceEqDiff, Nat.reduceLT, Nat.reduceLeDiff, Nat.reduceAdd, reduceCtorEq, Nat.reduceMul, of76_0, e0, e3, l3, e5, e6, ho, isMap_sl, List.getD_cons_zero, List.length_map, sl64, el64, sz24, ok64, sz64, ag64, true_and, not_false_eq_true]; refine k' _ _ ?_; clear k' K')
    all_goals (refine F.g rfl (by first | rfl | (simp only [stC, ze, reduceIte, Nat.reduceEqDiff, e0, e3, l3, e5, e6, ho, isMap_sl, List.getD_cons_zero, List.length_map, sl64, el64, sz24, ok64, sz64, ag64, true_and, not_false_eq_true]; done) | (simp only [stC, ze, reduceIte, Nat.reduceEqDiff, e0, e3, l3, e5, e6, ho, isMap_sl, List.getD_cons_zero, List.length_map, sl64, el64, sz24, ok64, sz64, ag64, true_and, not_false_eq_true]; rfl)) rfl rfl fun K' k' => ?_; simp only [zz, reduceIte, Nat.reduceEqDiff, Nat.reduceLT, Nat.reduceLeDiff, Nat.reduceAdd, reduceCtorEq, Nat.reduceMul, ok24, sz24, ag24, e0, e3, l3, e5, e6, ho, isMap_sl, List.getD_cons_zero, List.length_map, sl64, el64, sz24, ok64, sz64, ag64, true_and, not_false_eq_true]; refine k' _ _ ?_; clear k' K')
    all_goals (try first | refine F.fork ?_ ?_ | refine F.fork3 ?_ ?_ ?_)
    all_goals first | (refine F.g rfl trivial rfl rfl fun K' k' => ?_; simp only [zz, reduceIte, Nat.reduceEqDiff, Nat.reduceLT, Nat.reduceLeDiff, Nat.reduceAdd, reduceCtorEq, Nat.reduceMul, e0, e3, l3, e5, e6, ho, isMap_sl, List.getD_cons_zero, List.length_map, sl64, el64, sz24, ok64, sz64, ag64, true_and, not_false_eq_true]; refine PCalls.eqto (rclone_part x hx.attrs hx.len) ?_ <;> (refine k' _ _ ?_; clear k' K')) | (refine F.g rfl trivial rfl rfl fun K' k' => ?_; simp only [zz, reduceIte, Nat.reduceEqDiff, Nat.reduceLT, Nat.reduceLeDiff, Nat.reduceAdd, reduceCtorEq, Nat.reduceMul, ok64, sz64, ag64, e0, e3, l3, e5, e6, ho, isMap_sl, List.getD_cons_zero, List.length_map, sl64, el64, sz24, ok64, sz64, ag64, true_and, not_false_eq_true]; refine k' _ _ ?_; clear k' K')
    all_goals (try first | refine F.fork ?_ ?_ | refine F.fork3 ?_ ?_ ?_)
    all_goals first | (refine F.g rfl trivial rfl rfl fun K' k' => ?_; simp only [zz, reduceIte, Nat.reduceEqDiff, Nat.reduceLT, Nat.reduceLeDiff, Nat.reduceAdd, reduceCtorEq, Nat.reduceMul, e0, e3, l3, e5, e6, ho, isMap_sl, List.getD_cons_zero, List.length_map, sl64, el64, sz24, ok64, sz64, ag64, true_and, not_false_eq_true]; refine PCalls.eqto (rclone_part x hx.attrs hx.len) ?_ <;> (refine k' _ _ ?_; clear k' K')) | (refine F.g rfl trivial rfl rfl fun K' k' => ?_; simp only [zz, reduceIte, Nat.reduceEqDiff, Nat.reduceLT, Nat.reduceLeDiff, Nat.reduceAdd, reduceCtorEq, Nat.reduceMul, sl64, el64, ok24, sz24, ag24, e0, e3, l3, e5, e6, ho, isMap_sl, List.getD_cons_zero, List.length_map, sl64, el64, sz24, ok64, sz64, ag64, true_and, not_false_eq_true]; refine ⟨hi, encP_len, ?_⟩ <;> (refine k' _ _ ?_; clear k' K')) | (refine F.g rfl trivial rfl rfl fun K' k' => ?_; simp only [zb, reduceIte, Nat.reduceEqDiff, Nat.reduceLT, Nat.reduceLeDiff, Nat.reduceAdd, reduceCtorEq, Nat.reduceMul, sl64, el64, ok24, sz24, ag24, zt24, by24, e0, e3, l3, e5, e6, ho, isMap_sl, List.getD_cons_zero, List.length_map, sl64, el64, sz24, ok64, sz64, ag64, true_and, not_false_eq_true]; refine k' _ _ ?_; clear k' K') | (refine F.g rfl trivial rfl rfl fun K' k' => ?_; simp only [zz, reduceIte, Nat.reduceEqDiff, Nat.reduceLT, Nat.reduceLeDiff, Nat.reduceAdd, reduceCtorEq, Nat.reduceMul, ok64, sz64, ag64, e0, e3, l3, e5, e6, ho, isMap_sl, List.getD_cons_zero, List.length_map, sl64, el64, sz24, ok64, sz64, ag64, true_and, not_false_eq_true]; refine k' _ _ ?_; clear k' K')
    all_goals (try first | refine F.fork ?_ ?_ | refine F.fork3 ?_ ?_ ?_)
    all_goals first | (refine F.g rfl trivial rfl rfl fun K' k' => ?_; simp only [zz, reduceIte, Nat.reduceEqDiff, Nat.reduceLT, Nat.reduceLeDiff, Nat.reduceAdd, reduceCtorEq, Nat.reduceMul, sl64, el64, ok24, sz24, ag24, zt24, by24, e0, e3, l3, e5, e6, ho, isMap_sl, List.getD_cons_zero, List.length_map, sl64, el64, sz24, ok64, sz64, ag64, true_and, not_false_eq_true]; refine ⟨fun e he => by (simp at he; rw [he]; rfl), by unfold maxLen; simp; omega, by unfold reach; simp; omega, fun kb hkb => ?_⟩ <;> (refine k' _ _ ?_; clear k' K')) | (refine F.g rfl trivial rfl rfl fun K' k' => ?_; simp only [zz, reduceIte, Nat.reduceEqDiff, Nat.reduceLT, Nat.reduceLeDiff, Nat.reduceAdd, reduceCtorEq, Nat.reduceMul, sl64, el64, ok24, sz24, ag24, e0, e3, l3, e5, e6, ho, isMap_sl, List.getD_cons_zero, List.length_map, sl64, el64, sz24, ok64, sz64, ag64, true_and, not_false_eq_true]; refine ⟨hi, encP_len, ?_⟩ <;> (refine k' _ _ ?_; clear k' K')) | (refine F.g rfl trivial rfl rfl fun K' k' => ?_; simp only [zz, reduceIte, Nat.reduceEqDiff, Nat.reduceLT, Nat.reduceLeDiff, Nat.reduceAdd, reduceCtorEq, Nat.reduceMul, e0, e3, l3, e5, e6, ho, isMap_sl, List.getD_cons_zero, List.length_map, sl64, el64, sz24, ok64, sz64, ag64, true_and, not_false_eq_true]; refine PCalls.eqto (rclone_part x hx.attrs hx.len) ?_ <;> (refine k' _ _ ?_; clear k' K')) | (refine F.g rfl trivial rfl rfl fun K' k' => ?_; simp only [zz, reduceIte, Nat.reduceEqDiff, Nat.reduceLT, Nat.reduceLeDiff, Nat.reduceAdd, reduceCtorEq, Nat.reduceMul, ok64, sz64, ag64, e0, e3, l3, e5, e6, ho, isMap_sl, List.getD_cons_zero, List.length_map, sl64, el64, sz24, ok64, sz64, ag64, true_and, not_false_eq_true]; refine k' _ _ ?_; clear k' K') | (refine F.g rfl trivial rfl rfl fun K' k' => ?_; simp only [zb, reduceIte, Nat.reduceEqDiff, Nat.reduceLT, Nat.reduceLeDiff, Nat.reduceAdd, reduceCtorEq, Nat.reduceMul, sl64, el64, ok24, sz24, ag24, zt24, by24, e0, e3, l3, e5, e6, ho, isMap_sl, List.getD_cons_zero, List.length_map, sl64, el64, sz24, ok64, sz64, ag64, true_and, not_false_eq_true]; refine k' _ _ ?_; clear k' K')
    all_goals (try first | refine F.fork ?_ ?_ | refine F.fork3 ?_ ?_ ?_)
    all_goals first | (refine F.g rfl trivial rfl rfl fun K' k' => ?_; simp only [zz, reduceIte, Nat.reduceEqDiff, Nat.reduceLT, Nat.reduceLeDiff, Nat.reduceAdd, reduceCtorEq, Nat.reduceMul, sl64, el64, ok24, sz24, ag24, zt24, by24, e0, e3, l3, e5, e6, ho, isMap_sl, List.getD_cons_zero, List.length_map, sl64, el64, sz24, ok64, sz64, ag64, true_and, not_false_eq_true]; refine ⟨fun e he => by (simp at he; rw [he]; rfl), by unfold maxLen; simp; omega, by unfold reach; simp; omega, fun kb hkb => ?_⟩ <;> (refine k' _ _ ?_; clear k' K')) | (refine F.g rfl trivial rfl rfl fun K' k' => ?_; simp only [zz, reduceIte, Nat.reduceEqDiff, Nat.reduceLT, Nat.reduceLeDiff, Nat.reduceAdd, reduceCtorEq, Nat.reduceMul, sl64, el64, ok24, sz24, ag24, e0, e3, l3, e5, e6, ho, isMap_sl, List.getD_cons_zero, List.length_map, sl64, el64, sz24, ok64, sz64, ag64, true_and, not_false_eq_true]; refine ⟨hi, encP_len, ?_⟩ <;> (refine k' _ _ ?_; clear k' K')) | (refine F.g rfl trivial rfl rfl fun K' k' => ?_; simp only [zz, reduceIte, Nat.reduceEqDiff, Nat.reduceLT, Nat.reduceLeDiff, Nat.reduceAdd, reduceCtorEq, Nat.reduceMul, ok64, sz64, ag64, e0, e3, l3, e5, e6, ho, isMap_sl, List.getD_cons_zero, List.length_map, sl64, el64, sz24, ok64, sz64, ag64, true_and, not_false_eq_true]; refine k' _ _ ?_; clear k' K') | (refine F.g rfl trivial rfl rfl fun K' k' => ?_; simp only [zb, reduceIte, Nat.reduceEqDiff, Nat.reduceLT, Nat.reduceLeDiff, Nat.reduceAdd, reduceCtorEq, Nat.reduceMul, sl64, el64, ok24, sz24, ag24, zt24, by24, e0, e3, l3, e5, e6, ho, isMap_sl, List.getD_cons_zero, List.length_map, sl64, el64, sz24, ok64, sz64, ag64, true_and, not_false_eq_true]; refine k' _ _ ?_; clear k' K')
    all_goals first | (refine F.g rfl trivial rfl rfl fun K' k' => ?_; simp only [zz, reduceIte, Nat.reduceEqDiff, Nat.reduceLT, Nat.reduceLeDiff, Nat.reduceAdd, reduceCtorEq, Nat.reduceMul, sl64, el64, ok24, sz24, ag24, e0, e3, l3, e5, e6, ho, isMap_sl, List.getD_cons_zero, List.length_map, sl64, el64, sz24, ok64, sz64, ag64, true_and, not_false_eq_true]; refine ⟨hi, encP_len, ?_⟩ <;> (refine k' _ _ ?_; clear k' K')) | (refine F.g rfl trivial rfl rfl fun K' k' => ?_; simp only [zz, reduceIte, Nat.reduceEqDiff, Nat.reduceLT, Nat.reduceLeDiff, Nat.reduceAdd, reduceCtorEq, Nat.reduceMul, sl64, el64, ok24, sz24, ag24, zt24, by24, e0, e3, l3, e5, e6, ho, isMap_sl, List.getD_cons_zero, List.length_map, sl64, el64, sz24, ok64, sz64, ag64, true_and, not_false_eq_true]; refine ⟨fun e he => by (simp at he; rw [he]; rfl), by unfold maxLen; simp; omega, by unfold reach; simp; omega, fun kb hkb => ?_⟩ <;> (refine k' _ _ ?_; clear k' K'))
    all_goals (refine F.g rfl trivial rfl rfl fun K' k' => ?_; simp only [zz, reduceIte, Nat.reduceEqDiff, Nat.reduceLT, Nat.reduceLeDiff, Nat.reduceAdd, reduceCtorEq, Nat.reduceMul, sl64, el64, ok24, sz24, ag24, zt24, by24, e0, e3, l3, e5, e6, ho, isMap_sl, List.getD_cons_zero, List.length_map, sl64, el64, sz24, ok64, sz64, ag64, true_and, not_false_eq_true]; refine ⟨fun e he => encP_len e (List.mem_of_mem_drop (List.mem_of_mem_take he)), by unfold maxLen; simp; omega, by unfold reach; simp; omega, fun kc hkc => ?_⟩ <;> (refine k' _ _ ?_; clear k' K'))
    all_goals iterate 3 (refine F.g rfl trivial rfl rfl fun K' k' => ?_; simp only [zz, reduceIte, Nat.reduceEqDiff, Nat.reduceLT, Nat.reduceLeDiff, Nat.reduceAdd, reduceCtorEq, Nat.reduceMul, of76_0, ok64, sz64, ag64, e0, e3, l3, e5, e6, ho, isMap_sl, List.getD_cons_zero, List.length_map, sl64, el64, sz24, ok64, sz64, ag64, true_and, not_false_eq_true]; refine k' _ _ ?_; clear k' K')
    all_goals refine F.nil ?_
    all_goals simp only [ze, reduceIte, Nat.reduceEqDiff, Nat.reduceLT, Nat.reduceLeDiff, Nat.reduceAdd, reduceCtorEq, Nat.reduceMul, e0, e3, l3, e5, e6, ho, isMap_sl, List.getD_cons_zero, List.length_map, sl64, el64, sz24, ok64, sz64, ag64, true_and, not_false_eq_true]
    all_goals
      have hkb2 : σ2.gr kb = none := by
        by_cases e : kb = ka
        · rw [e]; exact hka
        · simpa [e] using hkb
      have hkc2 : σ2.gr kc = none := by
        by_cases e : kc = kb
        · rw [e]; exact hkb2
        · by_cases e2 : kc = ka
          · rw [e2]; exact hka
          · simpa [e, e2] using hkc
      refine ⟨kc, hkc2, hp_ext (fun z => ?_) (fun j => ?_)⟩
      · by_cases e : z = g <;> simp [Hp.setObj, Hp.setGr, e]
      · by_cases e : j = kc
        · simp [Hp.setObj, Hp.setGr, e, encP]
          exact List.take_of_length_le (by simp)
        · by_cases e2 : j = kb
          · rw [e2] at e ⊢
            simp [Hp.setObj, Hp.setGr, e, hkb2]
          · by_cases e3 : j = ka
            · rw [e3] at e e2 ⊢
              simp [Hp.setObj, Hp.setGr, e, e2, hka]
            · simp [Hp.setObj, Hp.setGr, e, e2, e3]
  rintro s σ3 ⟨kc, hkc, rfl⟩
  refine AW.seq_k fun K7 h7 => ?_
  all_goals refine AW.reg0 ?_
  all_goals (refine S.g rfl rfl fun K' k' => ?_; simp only [zz, reduceIte, Nat.reduceEqDiff, Nat.reduceAdd]; refine k' _ _ ?_; clear k' K')
  all_goals refine S.nil ?_
  all_goals simp only [ze, reduceIte, Nat.reduceEqDiff, Nat.reduceLT, Nat.reduceLeDiff, Nat.reduceAdd, reduceCtorEq, Nat.reduceMul]
  all_goals apply_assumption
  refine AW.freezeO (k := kc) (g := g) (T := (24, 1)) (es := (rows.take i ++ x :: rows.drop i).map encP) (cells := [.gl kc]) (by simp) (by simp) rfl (AW.ret ?_)
  all_goals simp only [zs, reduceIte, Nat.reduceEqDiff, Nat.reduceLT, Nat.reduceLeDiff, Nat.reduceAdd, reduceCtorEq, Nat.reduceMul, fzV, fz1, St.fz_t, St.fz_l]
  refine hp_ext (fun z => ?_) (fun j => ?_)
  · by_cases e : z = g <;> simp [e, fz1]
  · by_cases e : j = kc <;> simp [e, hkc]
end Go.Abs.M
namespace Go.Abs.M
open Go Go.Abs Go.Proofs
set_option maxRecDepth 20000
set_option linter.unusedSimpArgs false
set_option linter.unusedVariables false
theorem rnewSet_spec (rows : List (List Bd)) (σ : Hp) (hr : rows.length * 24 ≤ 140737488355328) (hok : ∀ x ∈ rows, okI x) :
    ACalls Try.prog 46 [.sl (rows.map encP)] σ (fun v σ' => ∃ g, v = ptrV g ∧ σ.obj g = none ∧ σ' = σ.setObj g (some [.sl ((setL rows).map encP)])) := by
  refine ACalls.intro Try.call46 Try.func46 rfl Try.ntmps46 Try.results46 (by simp) ?_
  refine AW.seq_k fun K1 h1 => ?_
  all_goals refine AW.reg0 ?_
  all_goals (refine S.g rfl rfl fun K' k' => ?_; simp only [zz, reduceIte, Nat.reduceEqDiff, Nat.reduceAdd]; refine k' _ _ ?_; clear k' K')
  all_goals refine S.nil ?_
  all_goals simp only [ze, reduceIte, Nat.reduceEqDiff, Nat.reduceLT, Nat.reduceLeDiff, Nat.reduceAdd, reduceCtorEq, Nat.reduceMul]
  all_goals apply_assumption
  refine AW.seq_k fun K2 h2 => ?_
  all_goals refine AW.region (T := { hp := fun d => d == 6 }) (fun _ _ h => by cases h) rfl ?_
  all_goals (refine S.g rfl rfl fun K' k' => ?_; simp only [zz, reduceIte, Nat.reduceEqDiff, Nat.reduceLT, Nat.reduceLeDiff, Nat.reduceAdd, reduceCtorEq, Nat.reduceMul, zt76, pl76]; refine k' _ _ ?_; clear k' K')
  all_goals (refine S.g rfl rfl fun K' k' => ?_; simp only [zz, reduceIte, Nat.reduceEqDiff, Nat.reduceLT, Nat.reduceLeDiff, Nat.reduceAdd, reduceCtorEq, Nat.reduceMul, ok76, sz76, ag76]; intro g hg <;> (refine k' _ _ ?_; clear k' K'))
  all_goals (refine S.g rfl rfl fun K' k' => ?_; simp only [zz, reduceIte, Nat.reduceEqDiff, Nat.reduceAdd]; refine k' _ _ ?_; clear k' K')
  all_goals refine S.nil ?_
  all_goals simp only [ze, reduceIte, Nat.reduceEqDiff, Nat.reduceLT, Nat.reduceLeDiff, Nat.reduceAdd, reduceCtorEq, Nat.reduceMul]
  all_goals apply_assumption
  refine AW.nilO (g := g) (cells := [.c (.slice none 0 0)]) (by simp) rfl ?_
  simp only [Hp.setObj_setObj, List.map_cons, List.map_nil, wk1]
  refine AW.seq_j (fun s σ' => s.t 3 = .c (.pointer (some ⟨g, 0, none⟩)) ∧ σ' = σ.setObj g (some [.sl ((setL rows).map encP)])) ?_ ?_
  · refine AW.seq_k fun K3 h3 => ?_
    all_goals refine AW.reg0 ?_
    all_goals (refine S.g rfl rfl fun K' k' => ?_; simp only [zz, reduceIte, Nat.reduceEqDiff, Nat.reduceAdd]; refine k' _ _ ?_; clear k' K')
    all_goals refine S.nil ?_
    all_goals simp only [ze, reduceIte, Nat.reduceEqDiff, Nat.reduceLT, Nat.reduceLeDiff, Nat.reduceAdd, reduceCtorEq, Nat.reduceMul]
    all_goals apply_assumption
    refine AW.block ?_   -- 0
    refine AW.loop (fun m s σ' => ∃ i : Nat, m = rows.length - i ∧ i ≤ rows.length ∧ s.t 0 = .sl (rows.map encP) ∧ s.t 3 = .c (.pointer (some ⟨g, 0, none⟩)) ∧ s.t 4 = .c (.int .i64 (i : Nat)) ∧ σ' = σ.setObj g (some [.sl ((setL (rows.take i)).map encP)])) rows.length ?_ ?_
    · refine ⟨0, by omega, Nat.zero_le _, ?_⟩
      all_goals simp only [zs, reduceIte, Nat.reduceEqDiff, Nat.reduceLT, Nat.reduceLeDiff, Nat.reduceAdd, reduceCtorEq, Nat.reduceMul]
      exact ⟨rfl, rfl⟩
    rintro m s σ1 ⟨i, hm, hi, e0, e3, e4, rfl⟩
    refine AW.seq_k fun K4 h4 => ?_
    refine AW.seq_k fun K5 h5 => ?_
    all_goals refine AW.reg0 ?_
    all_goals iterate 4 (refine S.g rfl rfl fun K' k' => ?_; simp only [zz, reduceIte, Nat.reduceEqDiff, Nat.reduceLT, Nat.reduceLeDiff, Nat.reduceAdd, reduceCtorEq, Nat.reduceMul, sl64, el64, ok24, sz24, ag24, e0, e4, List.length_map]; refine k' _ _ ?_; clear k' K')
    all_goals refine S.nil ?_
    all_goals simp only [ze, reduceIte, Nat.reduceEqDiff, Nat.reduceLT, Nat.reduceLeDiff, Nat.reduceAdd, reduceCtorEq, Nat.reduceMul, e0, e4, List.length_map]
    all_goals apply_assumption
    refine AW.cond (b := decide (i < rows.length)) (by simp [ev]) (fun hc => ?_) (fun hc => ?_)
    · have hc := of_decide_eq_true hc
      refine AW.skip ?_
      all_goals simp only [zs, reduceIte, Nat.reduceEqDiff, Nat.reduceLT, Nat.reduceLeDiff, Nat.reduceAdd, reduceCtorEq, Nat.reduceMul]
      all_goals apply_assumption
      obtain ⟨x, hx⟩ : ∃ x, rows[i]? = some x := ⟨_, List.getElem?_eq_getElem hc⟩
      have hxm := List.mem_of_getElem? hx
      have hxe := encP_gd hx
      have hps : (σ.setObj g (some [.sl ((setL (rows.take i)).map encP)])).obj g = some [.sl ((setL (rows.take i)).map encP)] := by simp
      obtain ⟨hsr, hln, hmm⟩ := setL_ind (rows.take i)
      rw [List.length_take] at hln
      have hn : ((setL (rows.take i)).length + 1) * 24 ≤ 140737488355328 := by omega
      have hll : ∀ y ∈ setL (rows.take i), y.length < 4611686018427387904 := fun y hy => by
        have := (hok y (List.mem_of_mem_take (hmm y hy))).len
        omega
      have hw : IntKind.i64.wrap ((i : Int) + 1) = ((i + 1 : Nat) : Int) := by rw [wrap_small _ (by omega) (by omega)]; rfl
      refine AW.seq_k fun K6 h6 => ?_
      refine AW.block ?_   -- 1
      all_goals refine AW.reg0 ?_
      all_goals iterate 5 (refine S.g rfl rfl fun K' k' => ?_; simp only [zz, reduceIte, Nat.reduceEqDiff, Nat.reduceLT, Nat.reduceLeDiff, Nat.reduceAdd, reduceCtorEq, Nat.reduceMul, sl64, el64, ok24, sz24, ag24, e0, e3, e4, List.length_map, hc, hxe]; refine k' _ _ ?_; clear k' K')
      all_goals (refine S.g rfl rfl fun K' k' => ?_; simp only [zz, reduceIte, Nat.reduceEqDiff, Nat.reduceLT, Nat.reduceLeDiff, Nat.reduceAdd, reduceCtorEq, Nat.reduceMul, e0, e3, e4, List.length_map, hc, hxe]; refine (radd_spec g (setL (rows.take i)) x _ hps hsr hn hll (hok x hxm)).to fun v σ3 hv => ?_; obtain ⟨rfl, rfl⟩ := hv <;> (refine k' _ _ ?_; clear k' K'))
      all_goals refine S.nil ?_
      all_goals simp only [ze, reduceIte, Nat.reduceEqDiff, Nat.reduceLT, Nat.reduceLeDiff, Nat.reduceAdd, reduceCtorEq, Nat.reduceMul, e0, e3, e4, List.length_map, hc, hxe]
      all_goals apply_assumption
      all_goals refine AW.reg0 ?_
      all_goals iterate 3 (refine S.g rfl rfl fun K' k' => ?_; simp only [zz, reduceIte, Nat.reduceEqDiff, Nat.reduceAdd, e4, hw]; refine k' _ _ ?_; clear k' K')
      all_goals refine S.nil ?_
      all_goals simp only [ze, reduceIte, Nat.reduceEqDiff, Nat.reduceLT, Nat.reduceLeDiff, Nat.reduceAdd, reduceCtorEq, Nat.reduceMul, e4, hw]
      refine ⟨m - 1, by omega, i + 1, by omega, by omega, ?_⟩
      all_goals simp only [zs, reduceIte, Nat.reduceEqDiff, Nat.reduceLT, Nat.reduceLeDiff, Nat.reduceAdd, reduceCtorEq, Nat.reduceMul, e0, e3, e4]
      rw [setL_take hx]
    · have hc := of_decide_eq_false hc
      refine AW.exit ?_
      all_goals simp only [zs, reduceIte, Nat.reduceEqDiff, Nat.reduceLT, Nat.reduceLeDiff, Nat.reduceAdd, reduceCtorEq, Nat.reduceMul, e3]
      have : i = rows.length := by omega
      subst this
      rw [List.take_length]
  rintro s σ1 ⟨e3, rfl⟩
  refine AW.seq_k fun K7 h7 => ?_
  all_goals refine AW.reg0 ?_
  all_goals iterate 2 (refine S.g rfl rfl fun K' k' => ?_; simp only [zz, reduceIte, Nat.reduceEqDiff, Nat.reduceAdd, e3]; refine k' _ _ ?_; clear k' K')
  all_goals refine S.nil ?_
  all_goals simp only [ze, reduceIte, Nat.reduceEqDiff, Nat.reduceLT, Nat.reduceLeDiff, Nat.reduceAdd, reduceCtorEq, Nat.reduceMul, e3]
  all_goals apply_assumption
  refine AW.ret ?_
  all_goals simp only [zs, reduceIte, Nat.reduceEqDiff, Nat.reduceLT, Nat.reduceLeDiff, Nat.reduceAdd, reduceCtorEq, Nat.reduceMul]
  exact ⟨g, rfl, hg, rfl⟩
/-- Sets that hold the same. -/
def sameS (a b : List (List Bd)) : Bool := decide (a.length = b.length) && a.all (hasL b ·)
theorem rsame_spec (g g2 : Nat) (a b : List (List Bd)) (σ : Hp) (ho : σ.obj g = some [.sl (a.map encP)]) (ho2 : σ.obj g2 = some [.sl (b.map encP)]) (ha : a.length * 24 ≤ 140737488355328) (hb : b.length * 24 ≤ 140737488355328) (hl : ∀ y ∈ b, y.length < 4611686018427387904) :
    ACalls Try.prog 53 [ptrV g, ptrV g2] σ (fun v σ' => v = .c (.bool (sameS a b)) ∧ σ' = σ) := by
  refine ACalls.intro Try.call53 Try.func53 rfl Try.ntmps53 Try.results53 (by simp) ?_
  have hbe : ((a.length : Int) != (b.length : Int)) = !decide (a.length = b.length) := by
    by_cases h : a.length = b.length
    · simp [h]
    · simp [h]; omega
  refine AW.seq_k fun K1 h1 => ?_
  all_goals refine AW.reg0 ?_
  all_goals (refine S.g rfl rfl fun K' k' => ?_; simp only [zz, reduceIte, Nat.reduceEqDiff, Nat.reduceAdd]; refine k' _ _ ?_; clear k' K')
  all_goals refine S.nil ?_
  all_goals simp only [ze, reduceIte, Nat.reduceEqDiff, Nat.reduceLT, Nat.reduceLeDiff, Nat.reduceAdd, reduceCtorEq, Nat.reduceMul]
  all_goals apply_assumption
  refine AW.seq_j (fun s σ' => σ' = σ ∧ a.length = b.length ∧ s.t 0 = .c (.pointer (some ⟨g, 0, none⟩)) ∧ s.t 1 = .c (.pointer (some ⟨g2, 0, none⟩))) ?_ ?_
  · refine AW.seq_j (fun s σ' => σ' = σ ∧ s.t 16 = .c (.bool (!decide (a.length = b.length))) ∧ s.t 0 = .c (.pointer (some ⟨g, 0, none⟩)) ∧ s.t 1 = .c (.pointer (some ⟨g2, 0, none⟩))) ?_ ?_
    · skip
      all_goals refine AW.drawF (T := { sd := fun _ => false }) (fun _ _ h => by cases h) mixedO (.st 0 0 (.st 1 0 (.st 2 0 (.st 5 0 (.st 6 0 (.st 7 0 (.fork 3 (.st 4 0 (.st 8 2 (.st 9 0 (.st 10 0 .nil)))) 8 (.st 9 0 (.st 3 2 (.st 4 0 (.st 10 0 .nil))))))))))) rfl (by kernel_rfl) (by kernel_rfl) ?_
      all_goals iterate 6 (refine F.g rfl trivial rfl rfl fun K' k' => ?_; simp only [zz, reduceIte, Nat.reduceEqDiff, Nat.reduceLT, Nat.reduceLeDiff, Nat.reduceAdd, reduceCtorEq, Nat.reduceMul, of76_0, ptrV, ho, ho2, isMap_sl, List.getD_cons_zero, List.length_map, hbe]; refine k' _ _ ?_; clear k' K')
      all_goals (try first | refine F.fork ?_ ?_ | refine F.fork3 ?_ ?_ ?_)
      all_goals (refine F.g rfl trivial rfl rfl fun K' k' => ?_; simp only [zz, reduceIte, Nat.reduceEqDiff, Nat.reduceLT, Nat.reduceLeDiff, Nat.reduceAdd, reduceCtorEq, Nat.reduceMul, ok64, sz64, ag64, ptrV, ho, ho2, isMap_sl, List.getD_cons_zero, List.length_map, hbe]; refine k' _ _ ?_; clear k' K')
      all_goals (refine F.g rfl trivial rfl rfl fun K' k' => ?_; simp only [zz, reduceIte, Nat.reduceEqDiff, Nat.reduceLT, Nat.reduceLeDiff, Nat.reduceAdd, reduceCtorEq, Nat.reduceMul, sl64, el64, ok24, sz24, ag24, ptrV, ho, ho2, isMap_sl, List.getD_cons_zero, List.length_map, hbe]; refine k' _ _ ?_; clear k' K')
      all_goals (refine F.g rfl trivial rfl rfl fun K' k' => ?_; simp only [zz, reduceIte, Nat.reduceEqDiff, Nat.reduceLT, Nat.reduceLeDiff, Nat.reduceAdd, reduceCtorEq, Nat.reduceMul, ok64, sz64, ag64, ptrV, ho, ho2, isMap_sl, List.getD_cons_zero, List.length_map, hbe]; refine k' _ _ ?_; clear k' K')
      all_goals (refine F.g rfl trivial rfl rfl fun K' k' => ?_; simp only [zz, reduceIte, Nat.reduceEqDiff, Nat.reduceLT, Nat.reduceLeDiff, Nat.reduceAdd, reduceCtorEq, Nat.reduceMul, sl64, el64, ok24, sz24, ag24, ptrV, ho, ho2, isMap_sl, List.getD_cons_zero, List.length_map, hbe]; refine k' _ _ ?_; clear k' K')
      all_goals (refine F.g rfl trivial rfl rfl fun K' k' => ?_; simp only [zz, reduceIte, Nat.reduceEqDiff, Nat.reduceAdd, ptrV, ho, ho2, isMap_sl, List.getD_cons_zero, List.length_map, hbe]; refine k' _ _ ?_; clear k' K')
      all_goals refine F.nil ?_
      all_goals simp only [ze, reduceIte, Nat.reduceEqDiff, Nat.reduceLT, Nat.reduceLeDiff, Nat.reduceAdd, reduceCtorEq, Nat.reduceMul, ptrV, ho, ho2, isMap_sl, List.getD_cons_zero, List.length_map, hbe]
    rintro s σ' ⟨rfl, e16, e0, e1⟩
    refine AW.cond (b := !decide (a.length = b.length)) e16 (fun hc => ?_) (fun hc => ?_)
    · have hc : ¬ a.length = b.length := by simpa using hc
      refine AW.seq_k fun K2 h2 => ?_
      all_goals refine AW.reg0 ?_
      all_goals (refine S.g rfl rfl fun K' k' => ?_; simp only [zz, reduceIte, Nat.reduceEqDiff, Nat.reduceAdd]; refine k' _ _ ?_; clear k' K')
      all_goals refine S.nil ?_
      all_goals simp only [ze, reduceIte, Nat.reduceEqDiff, Nat.reduceLT, Nat.reduceLeDiff, Nat.reduceAdd, reduceCtorEq, Nat.reduceMul]
      all_goals apply_assumption
      refine AW.ret ?_
      all_goals simp only [zs, reduceIte, Nat.reduceEqDiff, Nat.reduceLT, Nat.reduceLeDiff, Nat.reduceAdd, reduceCtorEq, Nat.reduceMul]
      simp [sameS, hc]
    · exact AW.skip ⟨rfl, by simpa using hc, e0, e1⟩
  rintro s σ' ⟨rfl, hlen, e0, e1⟩
  refine AW.seq_j (fun s σ2 => σ2 = σ' ∧ a.all (hasL b ·) = true) ?_ ?_
  · refine AW.seq_k fun K3 h3 => ?_
    all_goals refine AW.reg0 ?_
    all_goals (refine S.g rfl rfl fun K' k' => ?_; simp only [zz, reduceIte, Nat.reduceEqDiff, Nat.reduceAdd]; refine k' _ _ ?_; clear k' K')
    all_goals refine S.nil ?_
    all_goals simp only [ze, reduceIte, Nat.reduceEqDiff, Nat.reduceLT, Nat.reduceLeDiff, Nat.reduceAdd, reduceCtorEq, Nat.reduceMul]
    all_goals apply_assumption
    refine AW.block ?_   -- 0
    refine AW.loop (fun m s σ2 => σ2 = σ' ∧ ∃ i : Nat, m = a.length - i ∧ i ≤ a.length ∧ s.t 0 = .c (.pointer (some ⟨g, 0, none⟩)) ∧ s.t 1 = .c (.pointer (some ⟨g2, 0, none⟩)) ∧ s.t 5 = .c (.int .i64 (i : Nat)) ∧ (a.take i).all (hasL b ·) = true) a.length ?_ ?_
    · refine ⟨rfl, 0, by omega, Nat.zero_le _, ?_⟩
      all_goals simp only [zs, reduceIte, Nat.reduceEqDiff, Nat.reduceLT, Nat.reduceLeDiff, Nat.reduceAdd, reduceCtorEq, Nat.reduceMul, e0, e1]
      exact ⟨rfl, rfl⟩
    rintro m s σ2 ⟨rfl, i, hm, hi, e0, e1, e5, hall⟩
    refine AW.seq_k fun K4 h4 => ?_
    refine AW.seq_k fun K5 h5 => ?_
    all_goals refine AW.reg0 ?_
    all_goals iterate 7 (refine S.g rfl rfl fun K' k' => ?_; simp only [zz, reduceIte, Nat.reduceEqDiff, Nat.reduceLT, Nat.reduceLeDiff, Nat.reduceAdd, reduceCtorEq, Nat.reduceMul, of76_0, ok64, sz64, ag64, sl64, el64, ok24, sz24, ag24, e0, e5, ho, isMap_sl, List.getD_cons_zero, List.length_map]; refine k' _ _ ?_; clear k' K')
    all_goals refine S.nil ?_
    all_goals simp only [ze, reduceIte, Nat.reduceEqDiff, Nat.reduceLT, Nat.reduceLeDiff, Nat.reduceAdd, reduceCtorEq, Nat.reduceMul, e0, e5, ho, isMap_sl, List.getD_cons_zero, List.length_map]
    all_goals apply_assumption
    refine AW.cond (b := decide (i < a.length)) (by simp [ev]) (fun hc => ?_) (fun hc => ?_)
    · have hc := of_decide_eq_true hc
      refine AW.skip ?_
      all_goals simp only [zs, reduceIte, Nat.reduceEqDiff, Nat.reduceLT, Nat.reduceLeDiff, Nat.reduceAdd, reduceCtorEq, Nat.reduceMul]
      all_goals apply_assumption
      obtain ⟨x, hx⟩ : ∃ x, a[i]? = some x := ⟨_, List.getElem?_eq_getElem hc⟩
      have hxe := encP_gd hx
      have hh := rhas_spec g2 b x σ2 ho2 hb hl
      have hw : IntKind.i64.wrap ((i : Int) + 1) = ((i + 1 : Nat) : Int) := by rw [wrap_small _ (by omega) (by omega)]; rfl
      refine AW.seq_k fun K6 h6 => ?_
      refine AW.block ?_   -- 1
      refine AW.seq_k fun K7 h7 => ?_
      all_goals refine AW.reg0 ?_
      all_goals iterate 8 (refine S.g rfl rfl fun K' k' => ?_; simp only [zz, reduceIte, Nat.reduceEqDiff, Nat.reduceLT, Nat.reduceLeDiff, Nat.reduceAdd, reduceCtorEq, Nat.reduceMul, of76_0, ok64, sz64, ag64, sl64, el64, ok24, sz24, ag24, e0, e1, e5, ho, isMap_sl, List.getD_cons_zero, List.length_map, hc, hxe]; refine k' _ _ ?_; clear k' K')
      all_goals (refine S.g rfl rfl fun K' k' => ?_; simp only [zz, reduceIte, Nat.reduceEqDiff, Nat.reduceLT, Nat.reduceLeDiff, Nat.reduceAdd, reduceCtorEq, Nat.reduceMul, e0, e1, e5, ho, isMap_sl, List.getD_cons_zero, List.length_map, hc, hxe]; refine hh.to fun v σ2 hv => ?_; obtain ⟨rfl, rfl⟩ := hv <;> (refine k' _ _ ?_; clear k' K'))
      all_goals (refine S.g rfl rfl fun K' k' => ?_; simp only [zz, reduceIte, Nat.reduceEqDiff, Nat.reduceAdd, e0, e1, e5, ho, isMap_sl, List.getD_cons_zero, List.length_map, hc, hxe]; refine k' _ _ ?_; clear k' K')
      all_goals refine S.nil ?_
      all_goals simp only [ze, reduceIte, Nat.reduceEqDiff, Nat.reduceLT, Nat.reduceLeDiff, Nat.reduceAdd, reduceCtorEq, Nat.reduceMul, e0, e1, e5, ho, isMap_sl, List.getD_cons_zero, List.length_map, hc, hxe]
      all_goals apply_assumption
      refine AW.cond (b := !hasL b x) (by simp [ev]) (fun hc2 => ?_) (fun hc2 => ?_)
      · have hc2 : hasL b x = false := by simpa using hc2
        refine AW.seq_k fun K8 h8 => ?_
        all_goals refine AW.reg0 ?_
        all_goals (refine S.g rfl rfl fun K' k' => ?_; simp only [zz, reduceIte, Nat.reduceEqDiff, Nat.reduceAdd]; refine k' _ _ ?_; clear k' K')
        all_goals refine S.nil ?_
        all_goals simp only [ze, reduceIte, Nat.reduceEqDiff, Nat.reduceLT, Nat.reduceLeDiff, Nat.reduceAdd, reduceCtorEq, Nat.reduceMul]
        all_goals apply_assumption
        refine AW.ret ?_
        all_goals simp only [zs, reduceIte, Nat.reduceEqDiff, Nat.reduceLT, Nat.reduceLeDiff, Nat.reduceAdd, reduceCtorEq, Nat.reduceMul]
        have : a.all (hasL b ·) = false := by
          rw [List.all_eq_false]
          exact ⟨x, List.mem_of_getElem? hx, by simp [hc2]⟩
        simp [sameS, this]
      · have hc2 : hasL b x = true := by simpa using hc2
        refine AW.skip ?_
        all_goals simp only [zs, reduceIte, Nat.reduceEqDiff, Nat.reduceLT, Nat.reduceLeDiff, Nat.reduceAdd, reduceCtorEq, Nat.reduceMul]
        all_goals apply_assumption
        all_goals refine AW.reg0 ?_
        all_goals iterate 3 (refine S.g rfl rfl fun K' k' => ?_; simp only [zz, reduceIte, Nat.reduceEqDiff, Nat.reduceAdd, e5, hw]; refine k' _ _ ?_; clear k' K')
        all_goals refine S.nil ?_
        all_goals simp only [ze, reduceIte, Nat.reduceEqDiff, Nat.reduceLT, Nat.reduceLeDiff, Nat.reduceAdd, reduceCtorEq, Nat.reduceMul, e5, hw]
        refine ⟨m - 1, by omega, i + 1, by omega, by omega, ?_⟩
        all_goals simp only [zs, reduceIte, Nat.reduceEqDiff, Nat.reduceLT, Nat.reduceLeDiff, Nat.reduceAdd, reduceCtorEq, Nat.reduceMul, e0, e1, e5]
        rw [List.take_add_one, hx, List.all_append, hall]
        simp [hc2]
    · have hc := of_decide_eq_false hc
      refine AW.exit ?_
      all_goals simp only [zs, reduceIte, Nat.reduceEqDiff, Nat.reduceLT, Nat.reduceLeDiff, Nat.reduceAdd, reduceCtorEq, Nat.reduceMul]
      have : i = a.length := by omega
      subst this
      rw [List.take_length] at hall
      exact hall
  rintro s σ2 ⟨rfl, hall⟩
  refine AW.seq_k fun K9 h9 => ?_
  all_goals refine AW.reg0 ?_
  all_goals (refine S.g rfl rfl fun K' k' => ?_; simp only [zz, reduceIte, Nat.reduceEqDiff, Nat.reduceAdd]; refine k' _ _ ?_; clear k' K')
  all_goals refine S.nil ?_
  all_goals simp only [ze, reduceIte, Nat.reduceEqDiff, Nat.reduceLT, Nat.reduceLeDiff, Nat.reduceAdd, reduceCtorEq, Nat.reduceMul]
  all_goals apply_assumption
  refine AW.ret ?_
  all_goals simp only [zs, reduceIte, Nat.reduceEqDiff, Nat.reduceLT, Nat.reduceLeDiff, Nat.reduceAdd, reduceCtorEq, Nat.reduceMul]
  simp [sameS, hlen, hall]
end Go.Abs.M
namespace Go.Abs.M
open Go Go.Abs Go.Proofs
set_option maxRecDepth 20000
set_option linter.unusedSimpArgs false
set_option linter.unusedVariables false
theorem newSetG_spec (rows : List (List Bd)) (ks : Nat) (σ : Hp) (hks : σ.gr ks = some ((24, 1), rows.map encP)) (hr : rows.length * 24 ≤ 140737488355328) (hok : ∀ x ∈ rows, okI x) :
    ACalls Try.prog 42 [.gl ks] σ (fun v σ' => ∃ g, v = ptrV g ∧ NewS g (setL rows) σ σ') := by
  refine ACalls.intro Try.call42 Try.func42 rfl Try.ntmps42 Try.results42 (by simp) ?_
  refine AW.seq_k fun K1 h1 => ?_
  all_goals refine AW.reg0 ?_
  all_goals (refine S.g rfl rfl fun K' k' => ?_; simp only [zz, reduceIte, Nat.reduceEqDiff, Nat.reduceAdd]; refine k' _ _ ?_; clear k' K')
  all_goals refine S.nil ?_
  all_goals simp only [ze, reduceIte, Nat.reduceEqDiff, Nat.reduceLT, Nat.reduceLeDiff, Nat.reduceAdd, reduceCtorEq, Nat.reduceMul]
  all_goals apply_assumption
  refine AW.seq_k fun K2 h2 => ?_
  all_goals refine AW.region (T := { hp := fun d => d == 7 }) (fun _ _ h => by cases h) rfl ?_
  all_goals (refine S.g rfl rfl fun K' k' => ?_; simp only [zz, reduceIte, Nat.reduceEqDiff, Nat.reduceLT, Nat.reduceLeDiff, Nat.reduceAdd, reduceCtorEq, Nat.reduceMul, zt123, pl123]; refine k' _ _ ?_; clear k' K')
  all_goals (refine S.g rfl rfl fun K' k' => ?_; simp only [zz, reduceIte, Nat.reduceEqDiff, Nat.reduceLT, Nat.reduceLeDiff, Nat.reduceAdd, reduceCtorEq, Nat.reduceMul, ok123, sz123, ag123]; intro g hg <;> (refine k' _ _ ?_; clear k' K'))
  all_goals (refine S.g rfl rfl fun K' k' => ?_; simp only [zz, reduceIte, Nat.reduceEqDiff, Nat.reduceAdd]; refine k' _ _ ?_; clear k' K')
  all_goals refine S.nil ?_
  all_goals simp only [ze, reduceIte, Nat.reduceEqDiff, Nat.reduceLT, Nat.reduceLeDiff, Nat.reduceAdd, reduceCtorEq, Nat.reduceMul]
  all_goals apply_assumption
  refine AW.seq_j (fun s σ' => s.t 3 = .c (.pointer (some ⟨g, 0, none⟩)) ∧ NewS g (setL rows) σ σ') ?_ ?_
  · refine AW.seq_k fun K3 h3 => ?_
    all_goals refine AW.reg0 ?_
    all_goals iterate 3 (refine S.g rfl rfl fun K' k' => ?_; simp only [zz, reduceIte, Nat.reduceEqDiff, Nat.reduceLT, Nat.reduceLeDiff, Nat.reduceAdd, reduceCtorEq, Nat.reduceMul, sl64, el64, ok24, sz24, ag24, hks, List.length_map]; refine k' _ _ ?_; clear k' K')
    all_goals refine S.nil ?_
    all_goals simp only [ze, reduceIte, Nat.reduceEqDiff, Nat.reduceLT, Nat.reduceLeDiff, Nat.reduceAdd, reduceCtorEq, Nat.reduceMul, hks, List.length_map]
    all_goals apply_assumption
    refine AW.block ?_   -- 0
    refine AW.loop (fun m s σ' => ∃ i : Nat, m = rows.length - i ∧ i ≤ rows.length ∧ s.t 3 = .c (.pointer (some ⟨g, 0, none⟩)) ∧ s.t 8 = .gl ks ∧ s.t 9 = .c (.int .i64 (rows.length : Nat)) ∧ s.t 10 = .c (.int .i64 (i : Nat)) ∧ NewS g (setL (rows.take i)) σ σ') rows.length ?_ ?_
    · refine ⟨0, by omega, Nat.zero_le _, ?_⟩
      all_goals simp only [zs, reduceIte, Nat.reduceEqDiff, Nat.reduceLT, Nat.reduceLeDiff, Nat.reduceAdd, reduceCtorEq, Nat.reduceMul]
      exact ⟨rfl, ⟨hg, .inl ⟨rfl, by simp⟩, fun x hx => by simp [hx], fun k x hk => ⟨by simpa using hk, by simp [stN]⟩⟩⟩
    rintro m s σ1 ⟨i, hm, hi, e3, e8, e9, e10, hnew⟩
    refine AW.seq_k fun K4 h4 => ?_
    all_goals refine AW.reg0 ?_
    all_goals (refine S.g rfl rfl fun K' k' => ?_; simp only [zz, reduceIte, Nat.reduceEqDiff, Nat.reduceAdd, e9, e10]; refine k' _ _ ?_; clear k' K')
    all_goals refine S.nil ?_
    all_goals simp only [ze, reduceIte, Nat.reduceEqDiff, Nat.reduceLT, Nat.reduceLeDiff, Nat.reduceAdd, reduceCtorEq, Nat.reduceMul, e9, e10]
    all_goals apply_assumption
    refine AW.seq_k fun K5 h5 => ?_
    refine AW.cond (b := decide (i < rows.length)) (by simp [ev]) (fun hc => ?_) (fun hc => ?_)
    · have hc := of_decide_eq_true hc
      refine AW.skip ?_
      all_goals simp only [zs, reduceIte, Nat.reduceEqDiff, Nat.reduceLT, Nat.reduceLeDiff, Nat.reduceAdd, reduceCtorEq, Nat.reduceMul]
      all_goals apply_assumption
      obtain ⟨x, hx⟩ : ∃ x, rows[i]? = some x := ⟨_, List.getElem?_eq_getElem hc⟩
      have hxm := List.mem_of_getElem? hx
      have hxe := encP_gd hx
      have hps := hnew.set
      have hks1 := (hnew.gr _ _ hks).1
      obtain ⟨hsr, hln, hmm⟩ := setL_ind (rows.take i)
      rw [List.length_take] at hln
      have hn : ((setL (rows.take i)).length + 1) * 24 ≤ 140737488355328 := by omega
      have hll : ∀ y ∈ setL (rows.take i), y.length < 4611686018427387904 := fun y hy => by
        have := (hok y (List.mem_of_mem_take (hmm y hy))).len
        omega
      have hw : IntKind.i64.wrap ((i : Int) + 1) = ((i + 1 : Nat) : Int) := by rw [wrap_small _ (by omega) (by omega)]; rfl
      refine AW.seq_k fun K6 h6 => ?_
      refine AW.block ?_   -- 1
      refine AW.seq_k fun K7 h7 => ?_
      all_goals refine AW.reg0 ?_
      all_goals iterate 4 (refine S.g rfl rfl fun K' k' => ?_; simp only [zz, reduceIte, Nat.reduceEqDiff, Nat.reduceLT, Nat.reduceLeDiff, Nat.reduceAdd, reduceCtorEq, Nat.reduceMul, sl64, el64, ok24, sz24, ag24, zt24, e8, e10, hks1, List.length_map, hc, hxe]; refine k' _ _ ?_; clear k' K')
      all_goals refine S.nil ?_
      all_goals simp only [ze, reduceIte, Nat.reduceEqDiff, Nat.reduceLT, Nat.reduceLeDiff, Nat.reduceAdd, reduceCtorEq, Nat.reduceMul, e8, e10, hks1, List.length_map, hc, hxe]
      all_goals apply_assumption
      all_goals refine AW.reg0 ?_
      all_goals iterate 2 (refine S.g rfl rfl fun K' k' => ?_; simp only [zz, reduceIte, Nat.reduceEqDiff, Nat.reduceLT, Nat.reduceLeDiff, Nat.reduceAdd, reduceCtorEq, Nat.reduceMul, ok24, sz24, ag24, e3]; refine k' _ _ ?_; clear k' K')
      all_goals (refine S.g rfl rfl fun K' k' => ?_; simp only [zz, reduceIte, Nat.reduceEqDiff, Nat.reduceLT, Nat.reduceLeDiff, Nat.reduceAdd, reduceCtorEq, Nat.reduceMul, e3]; refine (add_spec g (setL (rows.take i)) x _ hps hsr hn hll (hok x hxm)).to fun v σ3 hv => ?_; obtain ⟨rfl, hps3, hfr3⟩ := hv <;> (refine k' _ _ ?_; clear k' K'))
      all_goals refine S.nil ?_
      all_goals simp only [ze, reduceIte, Nat.reduceEqDiff, Nat.reduceLT, Nat.reduceLeDiff, Nat.reduceAdd, reduceCtorEq, Nat.reduceMul, e3]
      all_goals apply_assumption
      all_goals refine AW.reg0 ?_
      all_goals iterate 2 (refine S.g rfl rfl fun K' k' => ?_; simp only [zz, reduceIte, Nat.reduceEqDiff, Nat.reduceAdd, e10, hw]; refine k' _ _ ?_; clear k' K')
      all_goals refine S.nil ?_
      all_goals simp only [ze, reduceIte, Nat.reduceEqDiff, Nat.reduceLT, Nat.reduceLeDiff, Nat.reduceAdd, reduceCtorEq, Nat.reduceMul, e10, hw]
      refine ⟨m - 1, by omega, i + 1, by omega, by omega, ?_⟩
      all_goals simp only [zs, reduceIte, Nat.reduceEqDiff, Nat.reduceLT, Nat.reduceLeDiff, Nat.reduceAdd, reduceCtorEq, Nat.reduceMul, e3, e8, e9, e10]
      refine ⟨hnew.new, ?_, fun z hz => (hfr3.obj z hz).trans (hnew.obj z hz), fun k z hk => ?_⟩
      · rw [setL_take hx]; exact hps3
      · obtain ⟨h1, h2⟩ := hnew.gr k z hk
        exact hfr3.gr k z h1 h2
    · have hc := of_decide_eq_false hc
      refine AW.exit ?_
      all_goals simp only [zs, reduceIte, Nat.reduceEqDiff, Nat.reduceLT, Nat.reduceLeDiff, Nat.reduceAdd, reduceCtorEq, Nat.reduceMul, e3]
      have : i = rows.length := by omega
      subst this
      rw [List.take_length] at hnew
      exact hnew
  rintro s σ1 ⟨e3, hnew⟩
  refine AW.seq_k fun K8 h8 => ?_
  all_goals refine AW.reg0 ?_
  all_goals iterate 2 (refine S.g rfl rfl fun K' k' => ?_; simp only [zz, reduceIte, Nat.reduceEqDiff, Nat.reduceAdd, e3]; refine k' _ _ ?_; clear k' K')
  all_goals refine S.nil ?_
  all_goals simp only [ze, reduceIte, Nat.reduceEqDiff, Nat.reduceLT, Nat.reduceLeDiff, Nat.reduceAdd, reduceCtorEq, Nat.reduceMul, e3]
  all_goals apply_assumption
  refine AW.ret ?_
  all_goals simp only [zs, reduceIte, Nat.reduceEqDiff, Nat.reduceLT, Nat.reduceLeDiff, Nat.reduceAdd, reduceCtorEq, Nat.reduceMul]
  exact ⟨g, rfl, hnew⟩
/-- A set's rows, put into a new set: the same. -/
theorem setL_same {l : List (List Bd)} (hs : SrtL l) (hp : ∀ x ∈ l, partErr x = 0) : setL l = l := by
  have key : ∀ (r p : List (List Bd)), SrtL (p ++ r) → (∀ x ∈ r, partErr x = 0) → r.foldl addL p = p ++ r := by
    intro r
    induction r with
    | nil => intro p _ _; simp
    | cons x r ih =>
      intro p hs hp
      obtain ⟨s1, s2, s3⟩ := List.pairwise_append.1 hs
      have hlt : ∀ y ∈ p, cmpL y x < 0 := fun y hy => s3 y hy x (by simp)
      have hno : hasL p x = false := by
        cases e : hasL p x with
        | false => rfl
        | true =>
          obtain ⟨y, hy, hc⟩ := List.any_eq_true.1 e
          have := hlt y hy
          have hc : cmpL y x = 0 := by simpa using hc
          omega
      have hins : addL p x = p ++ [x] := by
        rw [addL, if_pos ⟨hp x (by simp), hno⟩]
        have : AtL p x p.length := ⟨fun j y hy _ => hlt y (List.mem_of_getElem? hy), fun j y hy hj => by have := (List.getElem?_eq_some_iff.1 hy).1; omega⟩
        rw [this.ins (Nat.le_refl _)]; simp
      rw [List.foldl_cons, hins, ih (p ++ [x]) (by simpa using hs) (fun y hy => hp y (by simp [hy]))]
      simp
  have := key l [] (by simpa using hs) hp
  simpa [setL] using this
theorem addL_ok {rows : List (List Bd)} {x : List Bd} (h : ∀ y ∈ rows, partErr y = 0) : ∀ y ∈ addL rows x, partErr y = 0 := fun y hy => by
  unfold addL at hy
  split at hy
  · rename_i hc
    rcases insL'_mem _ _ _ hy with rfl | hy
    · exact hc.1
    · exact h y hy
  · exact h y hy
theorem setL_ok (l : List (List Bd)) : ∀ y ∈ setL l, partErr y = 0 := by
  have key : ∀ (r p : List (List Bd)), (∀ x ∈ p, partErr x = 0) → ∀ y ∈ r.foldl addL p, partErr y = 0 := by
    intro r
    induction r with
    | nil => intro p h; exact h
    | cons x r ih => intro p h; exact ih _ (addL_ok h)
  exact key l [] (fun _ h => by cases h)
theorem sclone_spec (g : Nat) (rows : List (List Bd)) (σ : Hp) (hs : PSet g rows σ) (hr : rows.length * 24 ≤ 140737488355328) (hok : ∀ x ∈ rows, okI x) :
    ACalls Try.prog 48 [ptrV g] σ (fun v σ' => ∃ g2, v = ptrV g2 ∧ NewS g2 (setL rows) σ σ') := by
  refine ACalls.intro Try.call48 Try.func48 rfl Try.ntmps48 Try.results48 (by simp) ?_
  obtain ⟨lv, ho⟩ := hs.ex
  have hns := none_spec g _ σ ho
  refine AW.seq_k fun K1 h1 => ?_
  all_goals refine AW.reg0 ?_
  all_goals (refine S.g rfl rfl fun K' k' => ?_; simp only [zz, reduceIte, Nat.reduceEqDiff, Nat.reduceAdd]; refine k' _ _ ?_; clear k' K')
  all_goals refine S.nil ?_
  all_goals simp only [ze, reduceIte, Nat.reduceEqDiff, Nat.reduceLT, Nat.reduceLeDiff, Nat.reduceAdd, reduceCtorEq, Nat.reduceMul]
  all_goals apply_assumption
  refine AW.seq_k fun K2 h2 => ?_
  refine AW.seq_k fun K3 h3 => ?_
  all_goals refine AW.reg0 ?_
  all_goals (refine S.g rfl rfl fun K' k' => ?_; simp only [zz, reduceIte, Nat.reduceEqDiff, Nat.reduceAdd, ptrV]; refine k' _ _ ?_; clear k' K')
  all_goals (refine S.g rfl rfl fun K' k' => ?_; simp only [zz, reduceIte, Nat.reduceEqDiff, Nat.reduceLT, Nat.reduceLeDiff, Nat.reduceAdd, reduceCtorEq, Nat.reduceMul, ptrV]; refine hns.to fun v σ2 hv => ?_; obtain ⟨rfl, rfl⟩ := hv <;> (refine k' _ _ ?_; clear k' K'))
  all_goals refine S.nil ?_
  all_goals simp only [ze, reduceIte, Nat.reduceEqDiff, Nat.reduceLT, Nat.reduceLeDiff, Nat.reduceAdd, reduceCtorEq, Nat.reduceMul, ptrV]
  all_goals apply_assumption
  refine AW.cond (b := false) (by simp [ev]) (fun hc => by cases hc) (fun hc => ?_)
  refine AW.skip ?_
  all_goals simp only [zs, reduceIte, Nat.reduceEqDiff, Nat.reduceLT, Nat.reduceLeDiff, Nat.reduceAdd, reduceCtorEq, Nat.reduceMul]
  all_goals apply_assumption
  refine AW.seq_k fun K4 h4 => ?_
  rcases hs with ⟨rfl, hx1⟩ | ⟨ks, hx1, hks⟩
  · rw [ho] at hx1
    injection hx1 with hx1; injection hx1 with hx1 _; subst hx1
    have hnw := newSet_spec [] σ2 (by simp) (by simp)
    all_goals refine AW.reg0 ?_
    all_goals iterate 4 (refine S.g rfl rfl fun K' k' => ?_; simp only [zz, reduceIte, Nat.reduceEqDiff, Nat.reduceLT, Nat.reduceLeDiff, Nat.reduceAdd, reduceCtorEq, Nat.reduceMul, of123_0, ok64, sz64, ag64, ptrV, ho, map2, List.getD_cons_zero]; refine k' _ _ ?_; clear k' K')
    all_goals (refine S.g rfl rfl fun K' k' => ?_; simp only [zz, reduceIte, Nat.reduceEqDiff, Nat.reduceLT, Nat.reduceLeDiff, Nat.reduceAdd, reduceCtorEq, Nat.reduceMul, ptrV, ho, map2, List.getD_cons_zero]; refine hnw.to fun v σ3 hv => ?_; obtain ⟨g2, rfl, hnew⟩ := hv <;> (refine k' _ _ ?_; clear k' K'))
    all_goals (refine S.g rfl rfl fun K' k' => ?_; simp only [zz, reduceIte, Nat.reduceEqDiff, Nat.reduceAdd, ptrV, ho, map2, List.getD_cons_zero]; refine k' _ _ ?_; clear k' K')
    all_goals refine S.nil ?_
    all_goals simp only [ze, reduceIte, Nat.reduceEqDiff, Nat.reduceLT, Nat.reduceLeDiff, Nat.reduceAdd, reduceCtorEq, Nat.reduceMul, ptrV, ho, map2, List.getD_cons_zero]
    all_goals apply_assumption
    refine AW.ret ?_
    all_goals simp only [zs, reduceIte, Nat.reduceEqDiff, Nat.reduceLT, Nat.reduceLeDiff, Nat.reduceAdd, reduceCtorEq, Nat.reduceMul]
    exact ⟨g2, rfl, hnew⟩
  · rw [ho] at hx1
    injection hx1 with hx1; injection hx1 with hx1 _; subst hx1
    have hnw := newSetG_spec rows ks σ2 hks hr hok
    all_goals refine AW.reg0 ?_
    all_goals iterate 4 (refine S.g rfl rfl fun K' k' => ?_; simp only [zz, reduceIte, Nat.reduceEqDiff, Nat.reduceLT, Nat.reduceLeDiff, Nat.reduceAdd, reduceCtorEq, Nat.reduceMul, of123_0, ok64, sz64, ag64, ptrV, ho, map2, List.getD_cons_zero]; refine k' _ _ ?_; clear k' K')
    all_goals (refine S.g rfl rfl fun K' k' => ?_; simp only [zz, reduceIte, Nat.reduceEqDiff, Nat.reduceLT, Nat.reduceLeDiff, Nat.reduceAdd, reduceCtorEq, Nat.reduceMul, ptrV, ho, map2, List.getD_cons_zero]; refine hnw.to fun v σ3 hv => ?_; obtain ⟨g2, rfl, hnew⟩ := hv <;> (refine k' _ _ ?_; clear k' K'))
    all_goals (refine S.g rfl rfl fun K' k' => ?_; simp only [zz, reduceIte, Nat.reduceEqDiff, Nat.reduceAdd, ptrV, ho, map2, List.getD_cons_zero]; refine k' _ _ ?_; clear k' K')
    all_goals refine S.nil ?_
    all_goals simp only [ze, reduceIte, Nat.reduceEqDiff, Nat.reduceLT, Nat.reduceLeDiff, Nat.reduceAdd, reduceCtorEq, Nat.reduceMul, ptrV, ho, map2, List.getD_cons_zero]
    all_goals apply_assumption
    refine AW.ret ?_
    all_goals simp only [zs, reduceIte, Nat.reduceEqDiff, Nat.reduceLT, Nat.reduceLeDiff, Nat.reduceAdd, reduceCtorEq, Nat.reduceMul]
    exact ⟨g2, rfl, hnew⟩
end Go.Abs.M
namespace Go.Abs.M
open Go Go.Abs Go.Proofs
set_option maxRecDepth 20000
set_option linter.unusedSimpArgs false
set_option linter.unusedVariables false
/-- What 'told' keeps between two rounds. -/
structure TI (r3 r4 r5 : Nat) (rows : List (List Bd)) (i : Nat) (σ : Hp) : Prop where
  o3 : σ.obj r3 = some [.sl (rows.map encP)]
  o4 : σ.obj r4 = some [.c (.bool false)]
  o5 : σ.obj r5 = some [.c (.int .i64 (i : Nat))]
set_option maxHeartbeats 2000000 in
theorem told_spec (rows : List (List Bd)) (hr : rows.length * 24 ≤ 140737488355328) (hok : ∀ x ∈ rows, okI x) :
    PCalls Try.prog 47 [.fn (.func 95) [] [capV rows], .sl (rows.map encP)] (fun v => v = .c (.bool true)) := by
  refine ACalls.bare (R := fun v _ => v = .c (.bool true)) ?_ (fun v _ h => h)
  refine ACalls.intro Try.call47 Try.func47 rfl Try.ntmps47 Try.results47 (by simp) ?_
  refine AW.seq_k fun K1 h1 => ?_
  all_goals refine AW.region (T := { hp := fun d => d == 3 || d == 4 }) (fun _ _ h => by cases h) rfl ?_
  all_goals (refine S.g rfl rfl fun K' k' => ?_; simp only [zz, reduceIte, Nat.reduceEqDiff, Nat.reduceLT, Nat.reduceLeDiff, Nat.reduceAdd, reduceCtorEq, Nat.reduceMul, ok64, sz64, ag64]; intro r3 hr3 <;> (refine k' _ _ ?_; clear k' K'))
  all_goals (refine S.g rfl rfl fun K' k' => ?_; simp only [zz, reduceIte, Nat.reduceEqDiff, Nat.reduceLT, Nat.reduceLeDiff, Nat.reduceAdd, reduceCtorEq, Nat.reduceMul, zt4]; intro r4 hr4 <;> (refine k' _ _ ?_; clear k' K'))
  all_goals refine S.nil ?_
  all_goals simp only [ze, reduceIte, Nat.reduceEqDiff, Nat.reduceLT, Nat.reduceLeDiff, Nat.reduceAdd, reduceCtorEq, Nat.reduceMul]
  all_goals apply_assumption
  refine AW.seq_k fun K2 h2 => ?_
  all_goals refine AW.region (T := { hp := fun d => d == 5 }) (fun _ _ h => by cases h) rfl ?_
  all_goals (refine S.g rfl rfl fun K' k' => ?_; simp only [zz, reduceIte, Nat.reduceEqDiff, Nat.reduceLT, Nat.reduceLeDiff, Nat.reduceAdd, reduceCtorEq, Nat.reduceMul, zt3, isMap_c, true_and]; intro r5 hr5 <;> (refine k' _ _ ?_; clear k' K'))
  all_goals (refine S.g rfl rfl fun K' k' => ?_; simp only [zz, reduceIte, Nat.reduceEqDiff, Nat.reduceLT, Nat.reduceLeDiff, Nat.reduceAdd, reduceCtorEq, Nat.reduceMul, ok3, sz3, ag3, isMap_c, true_and]; refine k' _ _ ?_; clear k' K')
  all_goals refine S.nil ?_
  all_goals simp only [ze, reduceIte, Nat.reduceEqDiff, Nat.reduceLT, Nat.reduceLeDiff, Nat.reduceAdd, reduceCtorEq, Nat.reduceMul, isMap_c, true_and]
  all_goals apply_assumption
  have hri0 : TI r3 r4 r5 rows 0 (((Hp.empty.setObj r3 (some [.sl (rows.map encP)])).setObj r4 (some [.c (.bool false)])).setObj r5 (some [.c (.int .i64 (0 : Int))])) := by
    have n1 : r3 ≠ r4 := fun e => by rw [← e] at hr4; simp at hr4
    have n2 : r3 ≠ r5 := fun e => by rw [← e] at hr5; simp [n1] at hr5
    have n3 : r4 ≠ r5 := fun e => by rw [← e] at hr5; simp at hr5
    exact ⟨by simp [n1, n2], by simp [n3], by simp⟩
  have hne : r3 ≠ r5 ∧ r4 ≠ r5 := by
    have n1 : r3 ≠ r4 := fun e => by rw [← e] at hr4; simp at hr4
    exact ⟨fun e => by rw [← e] at hr5; simp [n1] at hr5, fun e => by rw [← e] at hr5; simp at hr5⟩
  obtain ⟨n1, n2⟩ := hne
  clear hr3 hr4 hr5
  generalize ((Hp.empty.setObj r3 (some [.sl (rows.map encP)])).setObj r4 (some [.c (.bool false)])).setObj r5 (some [.c (.int .i64 (0 : Int))]) = σ0 at hri0 ⊢
  refine AW.seq_j (fun s σ' => s.t 3 = .c (.pointer (some ⟨r3, 0, none⟩)) ∧ s.t 4 = .c (.pointer (some ⟨r4, 0, none⟩)) ∧ s.t 5 = .c (.pointer (some ⟨r5, 0, none⟩)) ∧ TI r3 r4 r5 rows rows.length σ') ?_ ?_
  · refine AW.seq_j (fun s σ' => s.t 3 = .c (.pointer (some ⟨r3, 0, none⟩)) ∧ s.t 4 = .c (.pointer (some ⟨r4, 0, none⟩)) ∧ s.t 5 = .c (.pointer (some ⟨r5, 0, none⟩)) ∧ s.t 7 = .fn (.func 95) [] [capV rows] ∧ σ' = σ0) ?_ ?_
    · skip
      all_goals refine AW.reg0 ?_
      all_goals (refine S.g rfl rfl fun K' k' => ?_; simp only [zz, reduceIte, Nat.reduceEqDiff, Nat.reduceAdd]; refine k' _ _ ?_; clear k' K')
      all_goals refine S.nil ?_
      all_goals simp only [ze, reduceIte, Nat.reduceEqDiff, Nat.reduceLT, Nat.reduceLeDiff, Nat.reduceAdd, reduceCtorEq, Nat.reduceMul]
    rintro s σ' ⟨e3, e4, e5, e7, rfl⟩
    refine AW.block ?_   -- 0
    refine AW.rangeFunc (f := 95) (caps := [capV rows]) (xs := rows.map partA) (by simp [ev, e7]) (iter_all rows (fun l hl => ⟨(hok l hl).attrs, (hok l hl).len⟩) (by omega)) (fun v hv => by simp at hv; rw [hv]; exact imm_cap rows) (by decide) (fun i σ' => TI r3 r4 r5 rows i σ') (fun _ _ => False) hri0 ?_ ?_ (fun _ h => h.elim) (fun _ _ h => h.elim)
    · intro r i v σ4 hv hri
      obtain ⟨x, hx, rfl⟩ : ∃ x, rows[i]? = some x ∧ v = partA x := by
        rw [List.getElem?_map, Option.map_eq_some_iff] at hv
        obtain ⟨x, h, e⟩ := hv
        exact ⟨x, h, e.symm⟩
      have hxm := List.mem_of_getElem? hx
      have hil := (List.getElem?_eq_some_iff.1 hx).1
      have hxe := encP_gd hx
      have f3 : ((plainS s).put 8 (partA x)).t 3 = .c (.pointer (some ⟨r3, 0, none⟩)) := by simp [plainS, keepV, e3]
      have f4 : ((plainS s).put 8 (partA x)).t 4 = .c (.pointer (some ⟨r4, 0, none⟩)) := by simp [plainS, keepV, e4]
      have f5 : ((plainS s).put 8 (partA x)).t 5 = .c (.pointer (some ⟨r5, 0, none⟩)) := by simp [plainS, keepV, e5]
      have f8 : ((plainS s).put 8 (partA x)).t 8 = .agg [.sl (x.map encBd)] := by simp [partA]
      generalize (plainS s).put 8 (partA x) = s1 at f3 f4 f5 f8 ⊢
      obtain ⟨o3, o4, o5⟩ := hri
      have hsx : PCalls Try.prog 14 [.agg [.sl (x.map encBd)], .agg [.sl (x.map encBd)]] (fun v => v = .c (.bool true)) := (rsame_part x x (by have := (hok x hxm).len; omega) (fun b hb => by have := (hok x hxm).attrs b hb; omega)).mono fun v hv => by rw [hv, allEq_refl eqBd_refl]
      have hw1 : IntKind.i64.wrap ((i : Int) + 1) = ((i + 1 : Nat) : Int) := by rw [wrap_small _ (by omega) (by omega)]; rfl
      have hdg : decide ((i : Int) ≥ (rows.length : Int)) = false := by simp; omega
      all_goals refine AWR.reg0 ⟨rfl, ?_⟩
      all_goals iterate 2 (refine S.g rfl rfl fun K' k' => ?_; simp only [zz, reduceIte, Nat.reduceEqDiff, Nat.reduceLT, Nat.reduceLeDiff, Nat.reduceAdd, reduceCtorEq, Nat.reduceMul, zt24, ok24, sz24, ag24, f8]; refine k' _ _ ?_; clear k' K')
      all_goals refine S.nil ?_
      all_goals simp only [ze, reduceIte, Nat.reduceEqDiff, Nat.reduceLT, Nat.reduceLeDiff, Nat.reduceAdd, reduceCtorEq, Nat.reduceMul, f8]
      refine AWR.block ?_
      refine AWR.seq_k fun K2 k2 => ?_
      refine AWR.seq_k fun K3 k3 => ?_
      have hgo : ∀ s2 σ2, (σ2 = σ4 ∧ s2.t 21 = .c (.bool false) ∧ s2.t 5 = .c (.pointer (some ⟨r5, 0, none⟩))) → thenS K3 (thenS K2 (inBlockS 1 (roundS (fun σ' => TI r3 r4 r5 rows (i + 1) σ') fun _ _ => False))) .normal s2 σ2 := by
        rintro s2 σ2 ⟨rfl, g21, g5⟩
        refine k3 _ _ ?_
        refine AWR.cond (b := false) g21 (fun hc => by cases hc) (fun _ => ?_)
        refine AWR.skip ?_
        refine k2 _ _ ?_
        all_goals refine AWR.reg0 ⟨rfl, ?_⟩
        all_goals iterate 3 (refine S.g rfl rfl fun K' k' => ?_; simp only [zz, reduceIte, Nat.reduceEqDiff, Nat.reduceLT, Nat.reduceLeDiff, Nat.reduceAdd, reduceCtorEq, Nat.reduceMul, ok3, sz3, ag3, g5, o5, isMap_c, List.getD_cons_zero, hw1, List.length_cons, List.length_nil, List.drop_succ_cons, List.drop_nil, true_and]; refine k' _ _ ?_; clear k' K')
        all_goals refine S.nil ?_
        all_goals simp only [ze, reduceIte, Nat.reduceEqDiff, Nat.reduceLT, Nat.reduceLeDiff, Nat.reduceAdd, reduceCtorEq, Nat.reduceMul, g5, o5, isMap_c, List.getD_cons_zero, hw1, List.length_cons, List.length_nil, List.drop_succ_cons, List.drop_nil, true_and]
        exact ⟨by simp [n1, o3], by simp [n2, o4], by simp⟩
      all_goals refine AWR.drawF (T := { sd := fun d => d == 6 }) (fun _ _ h => by cases h) mixedO (.fork 0 (.st 1 2 (.st 2 0 (.st 3 0 (.st 4 0 (.fork3 5 (.fork 6 (.st 7 2 (.st 8 0 (.st 9 2 (.st 10 2 (.st 11 0 (.st 12 0 .nil)))))) 7 (.st 6 2 (.st 8 0 (.st 9 2 (.st 10 2 (.st 11 0 (.st 12 0 .nil))))))) 6 (.fork 5 (.st 7 2 (.st 8 0 (.st 9 2 (.st 10 2 (.st 11 0 (.st 12 0 .nil)))))) 7 (.st 8 0 (.fork 5 (.st 9 2 (.st 10 2 (.st 11 0 (.st 12 0 .nil)))) 9 (.st 5 2 (.st 10 2 (.st 11 0 (.st 12 0 .nil))))))) 7 (.fork 5 (.st 6 2 (.st 8 0 (.st 9 2 (.st 10 2 (.st 11 0 (.st 12 0 .nil)))))) 6 (.st 8 0 (.fork 5 (.st 9 2 (.st 10 2 (.st 11 0 (.st 12 0 .nil)))) 9 (.st 5 2 (.st 10 2 (.st 11 0 (.st 12 0 .nil)))))))))))) 1 (.st 2 0 (.st 0 2 (.st 3 0 (.st 4 0 (.fork3 5 (.fork 6 (.st 7 2 (.st 8 0 (.st 9 2 (.st 10 2 (.st 11 0 (.st 12 0 .nil)))))) 7 (.st 6 2 (.st 8 0 (.st 9 2 (.st 10 2 (.st 11 0 (.st 12 0 .nil))))))) 6 (.fork 5 (.st 7 2 (.st 8 0 (.st 9 2 (.st 10 2 (.st 11 0 (.st 12 0 .nil)))))) 7 (.st 8 0 (.fork 5 (.st 9 2 (.st 10 2 (.st 11 0 (.st 12 0 .nil)))) 9 (.st 5 2 (.st 10 2 (.st 11 0 (.st 12 0 .nil))))))) 7 (.fork 5 (.st 6 2 (.st 8 0 (.st 9 2 (.st 10 2 (.st 11 0 (.st 12 0 .nil)))))) 6 (.st 8 0 (.fork 5 (.st 9 2 (.st 10 2 (.st 11 0 (.st 12 0 .nil)))) 9 (.st 5 2 (.st 10 2 (.st 11 0 (.st 12 0 .nil))))))))))))) rfl (by kernel_rfl) (by kernel_rfl) ?_
      all_goals (try first | refine F.fork ?_ ?_ | refine F.fork3 ?_ ?_ ?_)
      all_goals first | (refine F.g rfl trivial rfl rfl fun K' k' => ?_; simp only [zz, reduceIte, Nat.reduceEqDiff, Nat.reduceLT, Nat.reduceLeDiff, Nat.reduceAdd, reduceCtorEq, Nat.reduceMul, ok3, sz3, ag3, f3, f4, f5, o3, o4, o5, isMap_c, isMap_sl, List.getD_cons_zero, List.length_map, hdg, hil, hxe]; refine k' _ _ ?_; clear k' K') | (refine F.g rfl trivial rfl rfl fun K' k' => ?_; simp only [zz, reduceIte, Nat.reduceEqDiff, Nat.reduceLT, Nat.reduceLeDiff, Nat.reduceAdd, reduceCtorEq, Nat.reduceMul, ok64, sz64, ag64, f3, f4, f5, o3, o4, o5, isMap_c, isMap_sl, List.getD_cons_zero, List.length_map, hdg, hil, hxe]; refine k' _ _ ?_; clear k' K')
      all_goals first | (refine F.g rfl trivial rfl rfl fun K' k' => ?_; simp only [zz, reduceIte, Nat.reduceEqDiff, Nat.reduceLT, Nat.reduceLeDiff, Nat.reduceAdd, reduceCtorEq, Nat.reduceMul, ok64, sz64, ag64, f3, f4, f5, o3, o4, o5, isMap_c, isMap_sl, List.getD_cons_zero, List.length_map, hdg, hil, hxe]; refine k' _ _ ?_; clear k' K') | (refine F.g rfl trivial rfl rfl fun K' k' => ?_; simp only [zz, reduceIte, Nat.reduceEqDiff, Nat.reduceLT, Nat.reduceLeDiff, Nat.reduceAdd, reduceCtorEq, Nat.reduceMul, sl64, el64, ok24, sz24, ag24, f3, f4, f5, o3, o4, o5, isMap_c, isMap_sl, List.getD_cons_zero, List.length_map, hdg, hil, hxe]; refine k' _ _ ?_; clear k' K')
      all_goals first | (refine F.g rfl trivial rfl rfl fun K' k' => ?_; simp only [zz, reduceIte, Nat.reduceEqDiff, Nat.reduceLT, Nat.reduceLeDiff, Nat.reduceAdd, reduceCtorEq, Nat.reduceMul, sl64, el64, ok24, sz24, ag24, f3, f4, f5, o3, o4, o5, isMap_c, isMap_sl, List.getD_cons_zero, List.length_map, hdg, hil, hxe]; refine k' _ _ ?_; clear k' K') | (refine F.g rfl trivial rfl rfl fun K' k' => ?_; simp only [zz, reduceIte, Nat.reduceEqDiff, Nat.reduceLT, Nat.reduceLeDiff, Nat.reduceAdd, reduceCtorEq, Nat.reduceMul, ok3, sz3, ag3, f3, f4, f5, o3, o4, o5, isMap_c, isMap_sl, List.getD_cons_zero, List.length_map, hdg, hil, hxe]; refine k' _ _ ?_; clear k' K')
      all_goals (refine F.g rfl trivial rfl rfl fun K' k' => ?_; simp only [zz, reduceIte, Nat.reduceEqDiff, Nat.reduceLT, Nat.reduceLeDiff, Nat.reduceAdd, reduceCtorEq, Nat.reduceMul, f3, f4, f5, o3, o4, o5, isMap_c, isMap_sl, List.getD_cons_zero, List.length_map, hdg, hil, hxe]; refine S.bool fun b a12 => ?_; cases b <;> (try (exfalso; first | exact Bool.noConfusion a12 | (have h := of_decide_eq_true a12; omega) | (have h := of_decide_eq_false a12; omega))) <;> (refine k' _ _ ?_; clear k' K'))
      all_goals (refine F.g rfl trivial rfl rfl fun K' k' => ?_; simp only [zz, reduceIte, Nat.reduceEqDiff, Nat.reduceAdd, f3, f4, f5, o3, o4, o5, isMap_c, isMap_sl, List.getD_cons_zero, List.length_map, hdg, hil, hxe]; refine k' _ _ ?_; clear k' K')
      all_goals (try first | refine F.fork ?_ ?_ | refine F.fork3 ?_ ?_ ?_)
      all_goals first | (first | (refine F.y rfl trivial rfl rfl rfl rfl fun K' k' => ?_; simp only [zz, reduceIte, Nat.reduceEqDiff, Nat.reduceLT, Nat.reduceLeDiff, Nat.reduceAdd, reduceCtorEq, Nat.reduceMul, ok24, sz24, ag24, f3, f4, f5, o3, o4, o5, isMap_c, isMap_sl, List.getD_cons_zero, List.length_map, hdg, hil, hxe]; refine k' _ _ ?_; clear k' K') | ((first | refine F.x rfl (fun h => by cases h) rfl rfl rfl rfl fun K' k' => ?_ | refine F.u rfl (fun h => by cases h) rfl rfl rfl rfl fun K' k' => ?_); simp only [ze, reduceIte, Nat.reduceEqDiff]; refine k' _ _ ?_; clear k' K')) | (first | (refine F.y rfl trivial rfl rfl rfl rfl fun K' k' => ?_; simp only [zz, reduceIte, Nat.reduceEqDiff, Nat.reduceLT, Nat.reduceLeDiff, Nat.reduceAdd, reduceCtorEq, Nat.reduceMul, ok64, sz64, ag64, f3, f4, f5, o3, o4, o5, isMap_c, isMap_sl, List.getD_cons_zero, List.length_map, hdg, hil, hxe]; refine k' _ _ ?_; clear k' K') | ((first | refine F.x rfl (fun h => by cases h) rfl rfl rfl rfl fun K' k' => ?_ | refine F.u rfl (fun h => by cases h) rfl rfl rfl rfl fun K' k' => ?_); simp only [ze, reduceIte, Nat.reduceEqDiff]; refine k' _ _ ?_; clear k' K')) | (first | (refine F.y rfl trivial rfl rfl rfl rfl fun K' k' => ?_; simp only [zz, reduceIte, Nat.reduceEqDiff, Nat.reduceLT, Nat.reduceLeDiff, Nat.reduceAdd, reduceCtorEq, Nat.reduceMul, ok3, sz3, ag3, f3, f4, f5, o3, o4, o5, isMap_c, isMap_sl, List.getD_cons_zero, List.length_map, hdg, hil, hxe]; refine k' _ _ ?_; clear k' K') | ((first | refine F.x rfl (fun h => by cases h) rfl rfl rfl rfl fun K' k' => ?_ | refine F.u rfl (fun h => by cases h) rfl rfl rfl rfl fun K' k' => ?_); simp only [ze, reduceIte, Nat.reduceEqDiff]; refine k' _ _ ?_; clear k' K'))
      all_goals (try first | refine F.fork ?_ ?_ | refine F.fork3 ?_ ?_ ?_)
      all_goals first | (first | (refine F.y rfl trivial rfl rfl rfl rfl fun K' k' => ?_; simp only [zz, reduceIte, Nat.reduceEqDiff, Nat.reduceLT, Nat.reduceLeDiff, Nat.reduceAdd, reduceCtorEq, Nat.reduceMul, ok64, sz64, ag64, f3, f4, f5, o3, o4, o5, isMap_c, isMap_sl, List.getD_cons_zero, List.length_map, hdg, hil, hxe]; refine k' _ _ ?_; clear k' K') | ((first | refine F.x rfl (fun h => by cases h) rfl rfl rfl rfl fun K' k' => ?_ | refine F.u rfl (fun h => by cases h) rfl rfl rfl rfl fun K' k' => ?_); simp only [ze, reduceIte, Nat.reduceEqDiff]; refine k' _ _ ?_; clear k' K')) | (first | (refine F.y rfl trivial rfl rfl rfl rfl fun K' k' => ?_; simp only [zz, reduceIte, Nat.reduceEqDiff, Nat.reduceLT, Nat.reduceLeDiff, Nat.reduceAdd, reduceCtorEq, Nat.reduceMul, ok3, sz3, ag3, f3, f4, f5, o3, o4, o5, isMap_c, isMap_sl, List.getD_cons_zero, List.length_map, hdg, hil, hxe]; refine k' _ _ ?_; clear k' K') | ((first | refine F.x rfl (fun h => by cases h) rfl rfl rfl rfl fun K' k' => ?_ | refine F.u rfl (fun h => by cases h) rfl rfl rfl rfl fun K' k' => ?_); simp only [ze, reduceIte, Nat.reduceEqDiff]; refine k' _ _ ?_; clear k' K')) | (first | (refine F.y rfl trivial rfl rfl rfl rfl fun K' k' => ?_; simp only [zz, reduceIte, Nat.reduceEqDiff, Nat.reduceLT, Nat.reduceLeDiff, Nat.reduceAdd, reduceCtorEq, Nat.reduceMul, ok24, sz24, ag24, f3, f4, f5, o3, o4, o5, isMap_c, isMap_sl, List.getD_cons_zero, List.length_map, hdg, hil, hxe]; refine k' _ _ ?_; clear k' K') | ((first | refine F.x rfl (fun h => by cases h) rfl rfl rfl rfl fun K' k' => ?_ | refine F.u rfl (fun h => by cases h) rfl rfl rfl rfl fun K' k' => ?_); simp only [ze, reduceIte, Nat.reduceEqDiff]; refine k' _ _ ?_; clear k' K'))
      all_goals first | (first | (refine F.y rfl trivial rfl rfl rfl rfl fun K' k' => ?_; simp only [zz, reduceIte, Nat.reduceEqDiff, Nat.reduceLT, Nat.reduceLeDiff, Nat.reduceAdd, reduceCtorEq, Nat.reduceMul, ok3, sz3, ag3, f3, f4, f5, o3, o4, o5, isMap_c, isMap_sl, List.getD_cons_zero, List.length_map, hdg, hil, hxe]; refine k' _ _ ?_; clear k' K') | ((first | refine F.x rfl (fun h => by cases h) rfl rfl rfl rfl fun K' k' => ?_ | refine F.u rfl (fun h => by cases h) rfl rfl rfl rfl fun K' k' => ?_); simp only [ze, reduceIte, Nat.reduceEqDiff]; refine k' _ _ ?_; clear k' K')) | (first | (refine F.y rfl trivial rfl rfl rfl rfl fun K' k' => ?_; simp only [zz, reduceIte, Nat.reduceEqDiff, Nat.reduceLT, Nat.reduceLeDiff, Nat.reduceAdd, reduceCtorEq, Nat.reduceMul, ok64, sz64, ag64, f3, f4, f5, o3, o4, o5, isMap_c, isMap_sl, List.getD_cons_zero, List.length_map, hdg, hil, hxe]; refine k' _ _ ?_; clear k' K') | ((first | refine F.x rfl (fun h => by cases h) rfl rfl rfl rfl fun K' k' => ?_ | refine F.u rfl (fun h => by cases h) rfl rfl rfl rfl fun K' k' => ?_); simp only [ze, reduceIte, Nat.reduceEqDiff]; refine k' _ _ ?_; clear k' K')) | (first | (refine F.y rfl trivial rfl rfl rfl rfl fun K' k' => ?_; simp only [zz, reduceIte, Nat.reduceEqDiff, Nat.reduceLT, Nat.reduceLeDiff, Nat.reduceAdd, reduceCtorEq, Nat.reduceMul, sl64, el64, ok24, sz24, ag24, f3, f4, f5, o3, o4, o5, isMap_c, isMap_sl, List.getD_cons_zero, List.length_map, hdg, hil, hxe]; refine k' _ _ ?_; clear k' K') | ((first | refine F.x rfl (fun h => by cases h) rfl rfl rfl rfl fun K' k' => ?_ | refine F.u rfl (fun h => by cases h) rfl rfl rfl rfl fun K' k' => ?_); simp only [ze, reduceIte, Nat.reduceEqDiff]; refine k' _ _ ?_; clear k' K'))
      all_goals (try first | refine F.fork ?_ ?_ | refine F.fork3 ?_ ?_ ?_)
      all_goals first | (first | (refine F.y rfl trivial rfl rfl rfl rfl fun K' k' => ?_; simp only [zz, reduceIte, Nat.reduceEqDiff, Nat.reduceLT, Nat.reduceLeDiff, Nat.reduceAdd, reduceCtorEq, Nat.reduceMul, sl64, el64, ok24, sz24, ag24, f3, f4, f5, o3, o4, o5, isMap_c, isMap_sl, List.getD_cons_zero, List.length_map, hdg, hil, hxe]; refine k' _ _ ?_; clear k' K') | ((first | refine F.x rfl (fun h => by cases h) rfl rfl rfl rfl fun K' k' => ?_ | refine F.u rfl (fun h => by cases h) rfl rfl rfl rfl fun K' k' => ?_); simp only [ze, reduceIte, Nat.reduceEqDiff]; refine k' _ _ ?_; clear k' K')) | (first | (refine F.y rfl trivial rfl rfl rfl rfl fun K' k' => ?_; simp only [zz, reduceIte, Nat.reduceEqDiff, Nat.reduceLT, Nat.reduceLeDiff, Nat.reduceAdd, reduceCtorEq, Nat.reduceMul, ok24, sz24, ag24, f3, f4, f5, o3, o4, o5, isMap_c, isMap_sl, List.getD_cons_zero, List.length_map, hdg, hil, hxe]; refine k' _ _ ?_; clear k' K') | ((first | refine F.x rfl (fun h => by cases h) rfl rfl rfl rfl fun K' k' => ?_ | refine F.u rfl (fun h => by cases h) rfl rfl rfl rfl fun K' k' => ?_); simp only [ze, reduceIte, Nat.reduceEqDiff]; refine k' _ _ ?_; clear k' K'))
      all_goals (first | (refine F.y rfl trivial rfl rfl rfl rfl fun K' k' => ?_; simp only [zz, reduceIte, Nat.reduceEqDiff, Nat.reduceLT, Nat.reduceLeDiff, Nat.reduceAdd, reduceCtorEq, Nat.reduceMul, ok24, sz24, ag24, f3, f4, f5, o3, o4, o5, isMap_c, isMap_sl, List.getD_cons_zero, List.length_map, hdg, hil, hxe]; refine k' _ _ ?_; clear k' K') | ((first | refine F.x rfl (fun h => by cases h) rfl rfl rfl rfl fun K' k' => ?_ | refine F.u rfl (fun h => by cases h) rfl rfl rfl rfl fun K' k' => ?_); simp only [ze, reduceIte, Nat.reduceEqDiff]; refine k' _ _ ?_; clear k' K'))
      all_goals (first | (refine F.y rfl trivial rfl rfl rfl rfl fun K' k' => ?_; simp only [zz, reduceIte, Nat.reduceEqDiff, Nat.reduceLT, Nat.reduceLeDiff, Nat.reduceAdd, reduceCtorEq, Nat.reduceMul, f3, f4, f5, o3, o4, o5, isMap_c, isMap_sl, List.getD_cons_zero, List.length_map, hdg, hil, hxe]; refine PCalls.eqto hsx ?_ <;> (refine k' _ _ ?_; clear k' K')) | ((first | refine F.x rfl (fun h => by cases h) rfl rfl rfl rfl fun K' k' => ?_ | refine F.u rfl (fun h => by cases h) rfl rfl rfl rfl fun K' k' => ?_); simp only [ze, reduceIte, Nat.reduceEqDiff]; refine k' _ _ ?_; clear k' K'))
      all_goals (first | (refine F.y rfl trivial rfl rfl rfl rfl fun K' k' => ?_; simp only [zz, reduceIte, Nat.reduceEqDiff, Nat.reduceAdd, f3, f4, f5, o3, o4, o5, isMap_c, isMap_sl, List.getD_cons_zero, List.length_map, hdg, hil, hxe]; refine k' _ _ ?_; clear k' K') | ((first | refine F.x rfl (fun h => by cases h) rfl rfl rfl rfl fun K' k' => ?_ | refine F.u rfl (fun h => by cases h) rfl rfl rfl rfl fun K' k' => ?_); simp only [ze, reduceIte, Nat.reduceEqDiff]; refine k' _ _ ?_; clear k' K'))
      all_goals (refine F.g rfl trivial rfl rfl fun K' k' => ?_; simp only [zz, reduceIte, Nat.reduceEqDiff, Nat.reduceAdd, f3, f4, f5, o3, o4, o5, isMap_c, isMap_sl, List.getD_cons_zero, List.length_map, hdg, hil, hxe]; refine k' _ _ ?_; clear k' K')
      all_goals refine F.nil ?_
      all_goals simp only [ze, reduceIte, Nat.reduceEqDiff, Nat.reduceLT, Nat.reduceLeDiff, Nat.reduceAdd, reduceCtorEq, Nat.reduceMul, f3, f4, f5, o3, o4, o5, isMap_c, isMap_sl, List.getD_cons_zero, List.length_map, hdg, hil, hxe]
      all_goals exact hgo _ _ ⟨rfl, rfl, by simp [kill, f5]⟩
    · intro σ4 hri
      have hl : (rows.map partA).length = rows.length := by simp
      rw [hl] at hri
      exact ⟨by simp [plainS, keepV, e3], by simp [plainS, keepV, e4], by simp [plainS, keepV, e5], hri⟩
  rintro s σ4 ⟨e3, e4, e5, ⟨o3, o4, o5⟩⟩
  refine AW.seq_k fun K3 h3 => ?_
  all_goals refine AW.reg0 ?_
  all_goals iterate 5 (refine S.g rfl rfl fun K' k' => ?_; simp only [zz, reduceIte, Nat.reduceEqDiff, Nat.reduceLT, Nat.reduceLeDiff, Nat.reduceAdd, reduceCtorEq, Nat.reduceMul, ok3, sz3, ag3, ok64, sz64, ag64, sl64, el64, ok24, sz24, ag24, ok4, sz4, ag4, e3, e4, e5, o3, o4, o5, isMap_c, isMap_sl, List.getD_cons_zero, List.length_map, beq_self_eq_true, List.length_cons, List.length_nil, true_and, List.drop_succ_cons, List.drop_nil]; refine k' _ _ ?_; clear k' K')
  all_goals refine S.nil ?_
  all_goals simp only [ze, reduceIte, Nat.reduceEqDiff, Nat.reduceLT, Nat.reduceLeDiff, Nat.reduceAdd, reduceCtorEq, Nat.reduceMul, e3, e4, e5, o3, o4, o5, isMap_c, isMap_sl, List.getD_cons_zero, List.length_map, beq_self_eq_true, List.length_cons, List.length_nil, true_and, List.drop_succ_cons, List.drop_nil]
  all_goals apply_assumption
  all_goals refine AW.ret ?_
  all_goals simp only [zs, reduceIte, Nat.reduceEqDiff, Nat.reduceLT, Nat.reduceLeDiff, Nat.reduceAdd, reduceCtorEq, Nat.reduceMul, ok4, sz4, ag4, cut, List.drop_zero, List.take_succ_cons, List.take_zero, isMap_c, Hp.setObj_obj, e4, List.getD_cons_zero]
  all_goals simp [qLoad, isMap, cut, okV, wk, wk1]
end Go.Abs.M
