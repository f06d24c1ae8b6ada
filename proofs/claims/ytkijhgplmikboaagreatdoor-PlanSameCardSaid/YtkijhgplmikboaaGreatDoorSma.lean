import GoSem.Core.Sem
import Derived.WalkKit
import Derived.KernelRfl
import Derived.Orders
import Derived.Deep.Quiet
import Derived.Laws.Cells
import Derived.Laws.Rows
import Derived.Laws.AppendOwn
import Derived.Lib.ConvBytes
import Derived.Laws.BytesArg
import Derived.Laws.Slices
import Derived.Maps.AppendAt
import Derived.Laws.OwnMore
import Derived.Lib.AppendStr
import Derived.Lib.AppendZerosOnto
import Derived.OrdersHeld
import Derived.RangeFuncRecord
set_option linter.all false
set_option maxHeartbeats 4000000
namespace Go.Abs
open Go
theorem ask_drawn {α : Type} : ∀ (q : Ask α) (w : World), w.drawn ≤ (w.ask q).2.drawn
  | .done a, w => Nat.le_refl _
  | .ask what range k, w => by
    simp only [World.ask]
    split
    · exact ask_drawn (k 0) w
    · exact Nat.le_trans (Nat.le_succ _) (ask_drawn (k _) { w with drawn := w.drawn + 1 })
theorem sys_drawn (w : World) (c : Sys) : w.drawn ≤ (w.sys c).2.drawn := by
 unfold World.sys
 have h := ask_drawn (Kernel.perform c w.os) w
 split
 ·exact Nat.le_refl _
 ·rename_i r os w' _ e
  rw [e] at h; exact h
theorem freeze_drawn (w : World) (a : Addr) (n : Nat) : (w.freeze a n).drawn = w.drawn := by
 unfold World.freeze
 split <;> rfl
theorem bind_ok {α β : Type} {x : Except String α} {f : α → Except String β} {b : β} (h : (x >>= f) = .ok b) : ∃ a, x = .ok a ∧ f a = .ok b := by
 cases x with
 | error e => cases h
 | ok a => exact ⟨a, rfl, h⟩
theorem viewStore_drawn {P : Program} {w : World} {p : Addr} {u : TypeId} {a : Addr} {v : Value} {at' : Bool} {r : World × List Addr} (h : w.viewStore P p u a v at' = .ok r) : r.1.drawn = w.drawn := by
  unfold World.viewStore at h
  by_cases h1 : (!tight P P.depth u) = true
  · rw [if_pos h1] at h; cases h
  · rw [if_neg h1] at h
    obtain ⟨⟨c, e, frozen, first, like, cells⟩, _, h⟩ := bind_ok h
    dsimp only at h
    cases hb : v.bytes? with
    | none => rw [hb] at h; cases h
    | some bytes =>
      rw [hb] at h
      dsimp only at h
      by_cases h2 : some bytes.length ≠ Option.map (fun x => x.length) like.bytes?
      · rw [if_pos h2] at h; cases h
      · rw [if_neg h2] at h
        obtain ⟨c', _, h⟩ := bind_ok h
        injection h with h
        rw [← h]
theorem farStore_drawn {P : Program} {w w' : World} {a : Addr} {v : Value} {at' : Bool} {l : List Addr} (h : w.farStore P a v at' = .ok (w', l)) : w.drawn ≤ w'.drawn := by
 unfold World.farStore at h
 split at h
 ·split at h
  ·rename_i r hr
   injection h with h
   have := viewStore_drawn hr
   rw [h] at this
   exact Nat.le_of_eq this.symm
  ·cases h
 ·cases h
theorem run_drawn {α : Type} {P : Program} : ∀ (s : Sem α) {w w' : World} {a : α}, s.run P w = .ok a w' → w.drawn ≤ w'.drawn := by
  intro s
  induction s with
  | pure a => intro w w' b h; simp only [Sem.run, Result.ok.injEq] at h; rw [h.2]; exact Nat.le_refl _
  | load m a k ih =>
    intro w w' b h
    simp only [Sem.run] at h
    split at h
    · exact ih _ h
    · split at h
      · exact ih _ h
      · cases h
  | store m a v k ih =>
    intro w w' b h
    have key : ∀ w1 : World, w.drawn ≤ w1.drawn → k.run P w1 = .ok b w' → w.drawn ≤ w'.drawn := fun w1 h1 h2 => Nat.le_trans h1 (ih h2)
    cases v with
    | agg cs => simp only [Sem.run] at h; cases h
    | tuple cs => simp only [Sem.run] at h; cases h
    | _ =>
      simp only [Sem.run] at h
      split at h
      · split at h
        · cases h
        · exact key (w.setCell a _) (Nat.le_refl w.drawn) h
      · split at h
        · rename_i hf
          exact key _ (farStore_drawn hf) h
        · cases h
  | new o k ih =>
    intro w w' b h
    simp only [Sem.run] at h
    have := ih _ h
    exact this
  | shape r k ih => intro w w' b h; simp only [Sem.run] at h; exact ih _ h
  | freeze a n k ih => intro w w' b h; simp only [Sem.run] at h; exact Nat.le_trans (Nat.le_of_eq (freeze_drawn w a n).symm) (ih h)
  | frozen a k ih => intro w w' b h; simp only [Sem.run] at h; exact ih _ h
  | getObj r k ih =>
    intro w w' b h
    simp only [Sem.run] at h
    split at h
    · cases h
    · exact ih _ h
    · cases h
  | setObj r o k ih =>
    intro w w' b h
    simp only [Sem.run] at h
    split at h
    · cases h
    · have := ih h
      exact this
    · cases h
  | choose q k ih =>
    intro w w' b h
    simp only [Sem.run] at h
    split at h
    · exact ih _ h
    · have := ih _ h
      exact Nat.le_trans (Nat.le_succ _) this
  | sys c k ih => intro w w' b h; simp only [Sem.run] at h; exact Nat.le_trans (sys_drawn w c) (ih _ h)
  | program k ih => intro w w' b h; simp only [Sem.run] at h; exact ih _ h
  | mark m k ih => intro w w' b h; simp only [Sem.run] at h; exact ih h
  | halt h => intro w w' b e; simp only [Sem.run] at e; cases e
end Go.Abs
namespace Go.Abs
open Go
inductive V where
  | c (v : Value)
  | junk
  | sl (es : List (List V))
  | ip (es : List (List V)) (i off : Nat)
  | lp (d off : Nat)
  | gl (k : Nat)
  | gp (k i off : Nat)
  | gv (k o n : Nat)
  | agg (cs : List V)
  | tup (vs : List V)
  | fn (f : Fn) (first cap : List V)
instance : Inhabited V := ⟨.junk⟩
structure Cx where
  I : Nat → Prop
  M : Nat → Value
  Z : Nat → Nat
  nm : Nat
  L : Nat → Nat
inductive VR (w : World) (cx : Cx) : V → Value → Prop
  | c (x : Value) : VR w cx (.c x) x
  | nils : VR w cx (.sl []) (.slice none 0 0)
  | nile (a : Addr) : VR w cx (.sl []) (.slice (some a) 0 0)
  | sl {es : List (List V)} {sz b o cap : Nat} (f : Nat → Nat → Value) (hI : cx.I b) (hcap : es.length ≤ cap)
      (hlen : ∀ (i : Nat) (e : List V), es[i]? = some e → e.length = sz)
      (hc : ∀ i j, i < es.length → j < sz → w.cell? ⟨b, o + i * sz + j, none⟩ = some (f i j))
      (hr : ∀ (i : Nat) (e : List V) (j : Nat) (v : V), es[i]? = some e → e[j]? = some v → VR w cx v (f i j))
      (h1 : ∀ i j, i < es.length → j < sz → (f i j).oneCell' = true) :
      VR w cx (.sl es) (.slice (some ⟨b, o, none⟩) es.length cap)
  | ip {es : List (List V)} {sz b o i off : Nat} (f : Nat → Nat → Value) (hI : cx.I b) (hi : i < es.length)
      (hlen : ∀ (i : Nat) (e : List V), es[i]? = some e → e.length = sz)
      (hc : ∀ i j, i < es.length → j < sz → w.cell? ⟨b, o + i * sz + j, none⟩ = some (f i j))
      (hr : ∀ (i : Nat) (e : List V) (j : Nat) (v : V), es[i]? = some e → e[j]? = some v → VR w cx v (f i j))
      (h1 : ∀ i j, i < es.length → j < sz → (f i j).oneCell' = true) :
      VR w cx (.ip es i off) (.pointer (some ⟨b, o + i * sz + off, none⟩))
  | gl {k : Nat} (hk : k < cx.nm) (hs : (cx.M k).oneCell' = true) : VR w cx (.gl k) (cx.M k)
  | gp {k i off g : Nat} (hk : k < cx.nm) (hg : (cx.M k).ownBlock = some g) : VR w cx (.gp k i off) (.pointer (some ⟨g, i * cx.Z k + off, none⟩))
  | gv {k o n cap : Nat} {a : Addr} (hk : k < cx.nm) (hg : 0 < n → ∃ g, (cx.M k).ownBlock = some g ∧ a = ⟨g, o * cx.Z k, none⟩) (hn : n ≤ cap) : VR w cx (.gv k o n) (.slice (some a) n cap)
  | agg {vs : List V} {xs : List Value} (h1 : ∀ x, x ∈ xs → x.oneCell' = true) (hn : vs.length = xs.length) (h : ∀ (i : Nat) (v : V) (x : Value), vs[i]? = some v → xs[i]? = some x → VR w cx v x) :
      VR w cx (.agg vs) (.agg ⟨xs⟩)
  | tup {vs : List V} {xs : List Value} (hn : vs.length = xs.length) (h : ∀ (i : Nat) (v : V) (x : Value), vs[i]? = some v → xs[i]? = some x → VR w cx v x) :
      VR w cx (.tup vs) (.tuple ⟨xs⟩)
  | fn {f : Fn} {vs us : List V} {xs ys : List Value} (hn : vs.length = xs.length) (h : ∀ (i : Nat) (v : V) (x : Value), vs[i]? = some v → xs[i]? = some x → VR w cx v x)
      (hm : us.length = ys.length) (g : ∀ (i : Nat) (v : V) (x : Value), us[i]? = some v → ys[i]? = some x → VR w cx v x) :
      VR w cx (.fn f vs us) (.func f ⟨xs⟩ ⟨ys⟩)
structure Cx.le (cx cx' : Cx) : Prop where
  I : ∀ g, cx.I g → cx'.I g
  nm : cx.nm ≤ cx'.nm
  M : ∀ k, k < cx.nm → cx'.M k = cx.M k
  Z : ∀ k, k < cx.nm → cx'.Z k = cx.Z k
theorem Cx.le.refl (cx : Cx) : cx.le cx := ⟨fun _ h => h, Nat.le_refl _, fun _ _ => rfl, fun _ _ => rfl⟩
theorem Cx.le.trans {a b c : Cx} (h : a.le b) (k : b.le c) : a.le c :=
 ⟨fun g hg => k.I g (h.I g hg), Nat.le_trans h.nm k.nm, fun i hi => (k.M i (Nat.lt_of_lt_of_le hi h.nm)).trans (h.M i hi), fun i hi => (k.Z i (Nat.lt_of_lt_of_le hi h.nm)).trans (h.Z i hi)⟩
theorem Cx.le.L (cx : Cx) (L : Nat → Nat) : cx.le { cx with L := L } := ⟨fun _ h => h, Nat.le_refl _, fun _ _ => rfl, fun _ _ => rfl⟩
theorem VR.keep {w w' : World} {cx cx' : Cx} {v : V} {x : Value} (h : VR w cx v x)
    (hw : ∀ g, cx.I g → w'.heap[g]? = w.heap[g]?) (hI : cx.le cx') : VR w' cx' v x := by
  induction h with
  | c x => exact .c x
  | nils => exact .nils
  | nile a => exact .nile a
  | sl f hb hcap hlen hc hr h1 ih =>
    exact .sl f (hI.I _ hb) hcap hlen (fun i j hi hj => (World.cell?_of_block (a := ⟨_, _, none⟩) (hw _ hb)).trans (hc i j hi hj)) ih h1
  | ip f hb hi hlen hc hr h1 ih =>
    exact .ip f (hI.I _ hb) hi hlen (fun i j hi hj => (World.cell?_of_block (a := ⟨_, _, none⟩) (hw _ hb)).trans (hc i j hi hj)) ih h1
  | gl hk hs => rw [← hI.M _ hk]; exact .gl (Nat.lt_of_lt_of_le hk hI.nm) (by rw [hI.M _ hk]; exact hs)
  | gp hk hg => rw [← hI.Z _ hk]; exact .gp (Nat.lt_of_lt_of_le hk hI.nm) (by rw [hI.M _ hk]; exact hg)
  | gv hk hg hn => exact .gv (Nat.lt_of_lt_of_le hk hI.nm) (by rw [hI.M _ hk, hI.Z _ hk]; exact hg) hn
  | agg h1 hn _ ih => exact .agg h1 hn ih
  | tup hn _ ih => exact .tup hn ih
  | fn hn _ hm _ ih1 ih2 => exact .fn hn ih1 hm ih2
def VRs (w : World) (cx : Cx) (vs : List V) (xs : List Value) : Prop :=
  vs.length = xs.length ∧ (∀ x, x ∈ xs → x.oneCell' = true) ∧ ∀ (i : Nat) (v : V) (x : Value), vs[i]? = some v → xs[i]? = some x → VR w cx v x
theorem VRs.keep {w w' : World} {cx cx' : Cx} {vs : List V} {xs : List Value} (h : VRs w cx vs xs)
  (hw : ∀ g, cx.I g → w'.heap[g]? = w.heap[g]?) (hI : cx.le cx') : VRs w' cx' vs xs :=
 ⟨h.1, h.2.1, fun i v x hv hx => (h.2.2 i v x hv hx).keep hw hI⟩
def isMap : List V → Bool
  | [.tup _] => true
  | _ => false
inductive OR (w : World) (cx : Cx) : List V → Obj → Prop
  | cells {vs : List V} {xs : List Value} {T : Nat} (h : VRs w cx vs xs) : OR w cx vs (.cells ⟨xs⟩ T (0, 0))
  | map {es : List V} {ms : List MapEntry} {clock : Nat} (hn : es.length = ms.length) (h : ∀ (i : Nat) (e : V) (m : MapEntry), es[i]? = some e → ms[i]? = some m → ∃ v, e = .tup [.c m.key, v] ∧ VR w cx v m.val)
      (hb : ms.Pairwise fun a b => a.born ≠ b.born) (hc : ∀ m ∈ ms, m.born < clock) :
      OR w cx [.tup es] (.map ⟨ms⟩ clock)
  | told (us : List Value) (T p q : Nat) : OR w cx [.tup (.junk :: .c (.int .u64 T) :: .c (.int .u64 p) :: .c (.int .u64 q) :: us.map .c)] (.cells ⟨us⟩ T (p, q))
abbrev toldV (us : List Value) (T p q : Nat) : List V := [.tup (.junk :: .c (.int .u64 T) :: .c (.int .u64 p) :: .c (.int .u64 q) :: us.map .c)]
theorem OR.keep {w w' : World} {cx cx' : Cx} {vs : List V} {o : Obj} (h : OR w cx vs o)
    (hw : ∀ g, cx.I g → w'.heap[g]? = w.heap[g]?) (hI : cx.le cx') : OR w' cx' vs o := by
  cases h with
  | cells h => exact .cells (h.keep hw hI)
  | map hn h hb hc =>
    refine .map hn (fun i e m he hm => ?_) hb hc
    obtain ⟨v, h1, h2⟩ := h i e m he hm
    exact ⟨v, h1, h2.keep hw hI⟩
  | told us T p q => exact .told us T p q
theorem OR.row {w : World} {cx : Cx} {vs : List V} {o : Obj} (h : OR w cx vs o) (hm : isMap vs = false) : ∃ T cs, o = .cells ⟨cs⟩ T (0, 0) ∧ VRs w cx vs cs := by
 cases h with
 | cells h => exact ⟨_, _, rfl, h⟩
 | map hn h hb hc => cases hm
 | told us T p q => cases hm
section
variable {w : World} {cx : Cx}
theorem VRs.nil : VRs w cx [] [] := ⟨rfl, fun _ h => by simp at h, fun i v x h => by simp at h⟩
theorem VRs.cons {v : V} {x : Value} {vs : List V} {xs : List Value} (h1 : x.oneCell' = true) (h : VR w cx v x) (hs : VRs w cx vs xs) : VRs w cx (v :: vs) (x :: xs) :=
 ⟨by simp [hs.1], fun y hy => by
  rcases List.mem_cons.1 hy with rfl | hy
  ·exact h1
  ·exact hs.2.1 y hy, fun i v' x' hv hx => by
  cases i with
  | zero => simp at hv hx; subst hv; subst hx; exact h
  | succ i => simp at hv hx; exact hs.2.2 i v' x' hv hx⟩
theorem VRs.uncons {v : V} {vs : List V} {xs : List Value} (h : VRs w cx (v :: vs) xs) : ∃ x ys, xs = x :: ys ∧ x.oneCell' = true ∧ VR w cx v x ∧ VRs w cx vs ys := by
 obtain ⟨hl, h1, hh⟩ := h
 cases xs with
 | nil => simp at hl
 | cons x ys => exact ⟨x, ys, rfl, h1 x List.mem_cons_self, hh 0 v x rfl rfl, by simpa using hl, fun y hy => h1 y (List.mem_cons_of_mem _ hy), fun i v' x' hv hx => hh (i + 1) v' x' (by simpa using hv) (by simpa using hx)⟩
theorem VRs.unnil {xs : List Value} (h : VRs w cx [] xs) : xs = [] := List.eq_nil_of_length_eq_zero (by simpa using h.1.symm)
theorem VRs.append {vs us : List V} {xs ys : List Value} (h : VRs w cx vs xs) (g : VRs w cx us ys) : VRs w cx (vs ++ us) (xs ++ ys) := by
  induction vs generalizing xs with
  | nil => rw [h.unnil]; exact g
  | cons v vs ih =>
    obtain ⟨x, zs, rfl, h0, h1, h2⟩ := h.uncons
    exact VRs.cons h0 h1 (ih h2)
theorem VRs.drop {vs : List V} {xs : List Value} (h : VRs w cx vs xs) (n : Nat) : VRs w cx (vs.drop n) (xs.drop n) :=
 ⟨by simp [h.1], fun y hy => h.2.1 y (List.mem_of_mem_drop hy), fun i v x hv hx => h.2.2 (n + i) v x (by simpa using hv) (by simpa using hx)⟩
theorem VRs.take {vs : List V} {xs : List Value} (h : VRs w cx vs xs) (n : Nat) : VRs w cx (vs.take n) (xs.take n) :=
 ⟨by simp [h.1], fun y hy => h.2.1 y (List.mem_of_mem_take hy), fun i v x hv hx => by
  rw [List.getElem?_take] at hv hx
  split at hv
  ·rw [if_pos ‹_›] at hx; exact h.2.2 i v x hv hx
  ·cases hv⟩
theorem VRs.agg {vs : List V} {xs : List Value} (h : VRs w cx vs xs) : VR w cx (.agg vs) (.agg ⟨xs⟩) := .agg h.2.1 h.1 h.2.2
end
structure Hp where
  obj : Nat → Option (List V)
  gr : Nat → Option ((TypeId × Nat) × List (List V))
def Hp.empty : Hp := ⟨fun _ => none, fun _ => none⟩
def Hp.own (σ : Hp) (cx : Cx) (g : Nat) : Prop := (∃ cells, σ.obj g = some cells) ∨ ∃ k x, σ.gr k = some x ∧ (cx.M k).ownBlock = some g
structure HR (cx : Cx) (σ : Hp) (w : World) : Prop where
  obj : ∀ g cells, σ.obj g = some cells → ∃ o, w.heap[g]? = some o ∧ OR w cx cells o
  gr : ∀ k T es, σ.gr k = some (T, es) → k < cx.nm ∧ cx.Z k = T.2 ∧ (∀ e : List V, e ∈ es → e.length = cx.Z k) ∧ ∃ xs, w.ownsRow 0 T.1 (cx.Z k) (cx.M k) es.length xs ∧ VRs w cx es.flatten xs
  two : ∀ k k' x x' g, σ.gr k = some x → σ.gr k' = some x' → (cx.M k).ownBlock = some g → (cx.M k').ownBlock = some g → k = k'
  mix : ∀ k x g cells, σ.gr k = some x → σ.obj g = some cells → (cx.M k).ownBlock ≠ some g
  apart : ∀ g, σ.own cx g → ¬ cx.I g
  ilt : ∀ g, cx.I g → g < w.heap.size
theorem lt_of_block {w : World} {g : Nat} {o : Obj} (h : w.heap[g]? = some o) : g < w.heap.size := (Array.getElem?_eq_some_iff.1 h).1
theorem HR.own_lt {cx : Cx} {σ : Hp} {w : World} (h : HR cx σ w) {g : Nat} (hg : σ.own cx g) : g < w.heap.size := by
 rcases hg with ⟨cells, hc⟩ | ⟨k, ⟨T, es⟩, hk, hb⟩
 ·obtain ⟨o, h1, _⟩ := h.obj g cells hc; exact lt_of_block h1
 ·obtain ⟨_, _, _, xs, h1, _⟩ := h.gr k T es hk; exact (h1.lt g hb).2
/-- Whether it is told that the tape is only read on. -/
class Mode where
  dm : Prop
variable [Mode]
structure Ext (cx : Cx) (F : Nat → Prop) (w : World) (cx' : Cx) (F' : Nat → Prop) (w' : World) : Prop where
  os : w'.os = w.os
  tape : w'.tape = w.tape
  output : w'.output = w.output ∧ (Mode.dm → w.drawn ≤ w'.drawn)
  size : w.heap.size ≤ w'.heap.size
  block : ∀ g, g < w.heap.size → ¬ F g → w'.heap[g]? = w.heap[g]?
  le : cx.le cx'
  inew : ∀ g, cx'.I g → cx.I g ∨ F g ∨ w.heap.size ≤ g
  fnew : ∀ g, F' g → F g ∨ w.heap.size ≤ g
theorem Ext.refl (cx : Cx) (F : Nat → Prop) (w : World) : Ext cx F w cx F w := ⟨rfl, rfl, ⟨rfl, fun _ => Nat.le_refl _⟩, Nat.le_refl _, fun _ _ _ => rfl, .refl _, fun _ h => .inl h, fun _ h => .inl h⟩
theorem Ext.trans {cx cx' cx'' : Cx} {F F' F'' : Nat → Prop} {w w' w'' : World} (h : Ext cx F w cx' F' w') (k : Ext cx' F' w' cx'' F'' w'') : Ext cx F w cx'' F'' w'' where
 os := k.os.trans h.os
 tape := k.tape.trans h.tape
 output := ⟨k.output.1.trans h.output.1, fun hm => Nat.le_trans (h.output.2 hm) (k.output.2 hm)⟩
 size := Nat.le_trans h.size k.size
 block g hg hf := (k.block g (Nat.lt_of_lt_of_le hg h.size) (fun hf' => (h.fnew g hf').elim hf (fun hs => by omega))).trans (h.block g hg hf)
 le := h.le.trans k.le
 inew g hi := by
  rcases k.inew g hi with h1 | h1 | h1
  ·exact h.inew g h1
  ·rcases h.fnew g h1 with h2 | h2
   ·exact .inr (.inl h2)
   ·exact .inr (.inr h2)
  ·exact .inr (.inr (Nat.le_trans h.size h1))
 fnew g hf := by
  rcases k.fnew g hf with h1 | h1
  ·exact h.fnew g h1
  ·exact .inr (Nat.le_trans h.size h1)
structure St where
  t : Nat → V
  l : Nat → Option (List V)
inductive TR (w : World) (cx : Cx) : V → Value → Prop
  | v {v : V} {x : Value} (h : VR w cx v x) : TR w cx v x
  | lp (d off : Nat) : TR w cx (.lp d off) (.pointer (some ⟨cx.L d, off, none⟩))
  | junk (x : Value) : TR w cx .junk x
structure LR (cx : Cx) (σ : Hp) (l : Nat → Option (List V)) (w : World) : Prop where
  box : ∀ d cells, l d = some cells → ∃ T cs, w.heap[cx.L d]? = some (.cells ⟨cs⟩ T (0, 0)) ∧ VRs w cx cells cs
  apart : ∀ d cells, l d = some cells → ¬ cx.I (cx.L d) ∧ ¬ σ.own cx (cx.L d)
  inj : ∀ d e cells cells', l d = some cells → l e = some cells' → cx.L d = cx.L e → d = e
def foot (cx : Cx) (σ : Hp) (l : Nat → Option (List V)) (g : Nat) : Prop := σ.own cx g ∨ ∃ d cells, l d = some cells ∧ cx.L d = g
structure Base where
  cx : Cx
  F : Nat → Prop
  w : World
  g : Nat → Prop
  o : Nat → Prop
  still : Nat → Prop := fun _ => False
  sd : Nat → Bool := fun _ => false
  w1 : World := w
  nd : Bool := false
def Marks (cx : Cx) (F : Nat → Prop) (w0 w : World) (ds : List Deferred) : Prop :=
  ds.Pairwise (· ≠ ·) ∧ ∀ d, d ∈ ds → ∃ D, d = { target := .collected D, args := #[] } ∧ w0.heap.size ≤ D ∧ w.heap[D]? = some (.deferred (some [])) ∧ ¬ F D ∧ ¬ cx.I D
theorem Marks.nil {cx : Cx} {F : Nat → Prop} {w0 w : World} : Marks cx F w0 w [] := ⟨.nil, fun _ h => by cases h⟩
theorem Marks.keep {cx cx' : Cx} {F F' : Nat → Prop} {w0 w w' : World} {ds : List Deferred} (h : Marks cx F w0 w ds) (hx : Ext cx F w cx' F' w') : Marks cx' F' w0 w' ds :=
 ⟨h.1, fun d hd => by
  obtain ⟨D, h1, h2, h3, h4, h5⟩ := h.2 d hd
  have hlt := lt_of_block h3
  exact ⟨D, h1, h2, (hx.block D hlt h4).trans h3, fun hf => (hx.fnew D hf).elim h4 (fun hs => by omega), fun hi => (hx.inew D hi).elim h5 (fun h6 => h6.elim h4 (fun hs => by omega))⟩⟩
theorem Marks.mono {cx cx' : Cx} {F F' : Nat → Prop} {w0 w : World} {ds : List Deferred} (h : Marks cx F w0 w ds) (hF : ∀ g, F' g → F g) (hI : ∀ g, cx'.I g → cx.I g ∨ F g) : Marks cx' F' w0 w ds :=
 ⟨h.1, fun d hd => by
  obtain ⟨D, h1, h2, h3, h4, h5⟩ := h.2 d hd
  exact ⟨D, h1, h2, h3, fun hf => h4 (hF D hf), fun hi => (hI D hi).elim h5 h4⟩⟩
structure SR (B : Base) (n : Nat) (cx : Cx) (s : St) (σ : Hp) (a : Act) (w : World) : Prop where
  size : a.tmps.size = n
  defers : Marks cx (foot cx σ s.l) B.w w a.defers
  nd : B.nd = true → a.defers = []
  tmp : ∀ t, TR w cx (s.t t) (a.tmps.getD t undef)
  heap : HR cx σ w
  box : LR cx σ s.l w
  ext : Ext B.cx B.F B.w cx (foot cx σ s.l) w
  gnew : ∀ k x, σ.gr k = some x → B.g k ∨ B.cx.nm ≤ k
  onew : ∀ g x, σ.obj g = some x → B.o g ∨ B.w.heap.size ≤ g
  stab : ∀ g, B.still g → w.heap[g]? = B.w1.heap[g]?
  stN : ∀ g, B.still g → g < w.heap.size ∧ ¬ σ.own cx g
  stS : ∀ d cells, s.l d = some cells → B.still (cx.L d) → B.sd d = true
end Go.Abs
namespace Go.Abs
open Go
def ofC : Value → V
  | .agg xs => if xs.toList.all (·.oneCell') then .agg (xs.toList.map .c) else .c (.agg xs)
  | v => .c v
theorem VR.const {w : World} {cx : Cx} (x : Value) : VR w cx (ofC x) x := by
 unfold ofC
 split
 ·rename_i xs
  split
  ·rename_i h1
   exact .agg (xs := xs.toList) (fun x hx => List.all_eq_true.1 h1 x hx) (by simp) (fun i v x hv hx => by
    simp only [List.getElem?_map, hx, Option.map_some, Option.some.injEq] at hv
    subst hv
    exact .c _)
  ·exact .c _
 ·exact .c _
def St.put (s : St) (d : Nat) (v : V) : St := ⟨fun x => if x = d then v else s.t x, s.l⟩
def St.putO (s : St) (d : Option Nat) (v : V) : St := match d with | some d => s.put d v | none => s
def kill (d : Nat) : V → V
  | .lp d' o => if d' = d then .junk else .lp d' o
  | v => v
def St.new (s : St) (d : Nat) (cells : List V) : St := ⟨fun x => if x = d then .lp d 0 else kill d (s.t x), fun y => if y = d then some cells else s.l y⟩
def St.setl (s : St) (d : Nat) (cells : List V) : St := ⟨s.t, fun y => if y = d then some cells else s.l y⟩
def ev (s : St) : Operand → V
  | .tmp t => s.t t
  | .const v => ofC v
  | .global g => .c (.pointer (some ⟨g, 0, none⟩))
  | .func f => .fn (.func f) [] []
def szT (P : Program) (t : TypeId) : Nat := P.cellsOf t
def aggT (P : Program) (t : TypeId) : Bool := match P.underlying t with | some (.struct _) | some (.array _ _) => true | _ => false
def okT (P : Program) (t : TypeId) : Bool := (P.underlying t).isSome
def offT (P : Program) (s f : Nat) : Option Nat := match P.underlying s with
  | some (.struct fs) => (fs[f]?).bind fun fl => if P.cellsOf fl.type = 0 then none else some fl.offset
  | _ => none
theorem run_sizeOf {P : Program} {w : World} {t : TypeId} {n : Nat} (h : szT P t = n) (hn : n ≠ 0) : (sizeOf t).run P w = .ok n w := by
 unfold szT Program.cellsOf at h
 cases hi : P.info? t with
 | none => simp [hi] at h; exact absurd h.symm hn
 | some i => simp [hi] at h; simp [sizeOf, typeInfo, hi, h]
theorem run_isAgg {P : Program} {w : World} {t : TypeId} (h : okT P t = true) : (isAgg t).run P w = .ok (aggT P t) w := by
  unfold okT at h
  cases hu : P.underlying t with
  | none => simp [hu] at h
  | some d =>
    unfold isAgg aggT
    simp only [Sem.run_bind, run_underlying hu w, Result.andThen_ok, hu]
    cases d <;> rfl
theorem TR.c_eq {w : World} {cx : Cx} {u x : Value} (h : TR w cx (.c u) x) : x = u := by
 cases h with
 | v h => cases h; rfl
theorem TR.bool {w : World} {cx : Cx} {b : Bool} {x : Value} (h : TR w cx (.c (.bool b)) x) : x = .bool b := h.c_eq
def cut (agg : Bool) (sz : Nat) (cells : List V) (off : Nat) : V := if agg then .agg ((cells.drop off).take sz) else cells.getD off .junk
def qLoad (agg : Bool) (sz : Nat) (s : St) (σ : Hp) (k : V → Prop) : V → Prop
  | .lp d off => match s.l d with
    | some cells => off + sz ≤ cells.length ∧ k (cut agg sz cells off)
    | none => False
  | .ip es i off => off + sz ≤ (es.getD i []).length ∧ k (cut agg sz (es.getD i []) off)
  | .gp g i off => match σ.gr g with
    | some (_, es) => i < es.length ∧ off + sz ≤ (es.getD i []).length ∧ k (cut agg sz (es.getD i []) off)
    | none => False
  | .c (.pointer (some ⟨g, off, none⟩)) => match σ.obj g with
    | some cells => isMap cells = false ∧ off + sz ≤ cells.length ∧ k (cut agg sz cells off)
    | none => False
  | _ => False
theorem run_loadVar_at {P : Program} {w : World} {cx : Cx} {t : TypeId} {sz off : Nat} {vs : List V} {xs : List Value} {b o : Nat} (hok : okT P t = true) (hsz : szT P t = sz) (h0 : sz ≠ 0)
    (hag : aggT P t = false → sz = 1)
    (hv : VRs w cx vs xs) (hlen : off + sz ≤ vs.length) :
    ∃ x, (∀ w' : World, (∀ (j : Nat) (x : Value), xs[j]? = some x → w'.cell? ⟨b, o + j, none⟩ = some x) → (loadVar t ⟨b, o + off, none⟩).run P w' = .ok x w') ∧ VR w cx (cut (aggT P t) sz vs off) x := by
  have hxl : off + sz ≤ xs.length := by rw [← hv.1]; exact hlen
  cases hA : aggT P t with
  | true =>
    refine ⟨.agg ⟨(xs.drop off).take sz⟩, fun w' hc => ?_, ?_⟩
    · unfold loadVar
      rw [Sem.run_bind, run_isAgg hok, hA]
      have hl := run_loadCells_list (P := P) w' ⟨b, o + off, none⟩ ((xs.drop off).take sz) (fun j x hx => by
        rw [List.getElem?_take] at hx
        split at hx
        · rw [List.getElem?_drop] at hx
          have := hc _ _ hx
          rw [Addr.add_lit, show o + off + j = o + (off + j) by omega]; exact this
        · cases hx)
      have e : ((xs.drop off).take sz).length = sz := by simp; omega
      rw [e] at hl
      simp [Sem.run_bind, run_sizeOf hsz h0, hl]
    · simp only [cut, if_true]
      exact ((hv.drop off).take sz).agg
  | false =>
    have h1 := hag hA
    subst h1
    have hlt : off < xs.length := by omega
    refine ⟨xs[off], fun w' hc => ?_, ?_⟩
    · unfold loadVar
      rw [Sem.run_bind, run_isAgg hok, hA]
      have := hc off xs[off] (List.getElem?_eq_getElem hlt)
      simp [this]
    · simp only [cut, Bool.false_eq_true, if_false]
      have hlt' : off < vs.length := by omega
      have e : vs.getD off .junk = vs[off] := by simp [List.getD, hlt']
      rw [e]
      exact hv.2.2 off _ _ (List.getElem?_eq_getElem hlt') (List.getElem?_eq_getElem hlt)
theorem row_of_elem {w : World} {cx : Cx} {es : List (List V)} {sz b o i : Nat} {f : Nat → Nat → Value} (hi : i < es.length)
    (h1 : ∀ i j, i < es.length → j < sz → (f i j).oneCell' = true)
    (hlen : ∀ (i : Nat) (e : List V), es[i]? = some e → e.length = sz)
    (hc : ∀ i j, i < es.length → j < sz → w.cell? ⟨b, o + i * sz + j, none⟩ = some (f i j))
    (hr : ∀ (i : Nat) (e : List V) (j : Nat) (v : V), es[i]? = some e → e[j]? = some v → VR w cx v (f i j)) :
    ∃ xs : List Value, VRs w cx (es.getD i []) xs ∧ ∀ j x, xs[j]? = some x → w.cell? ⟨b, (o + i * sz) + j, none⟩ = some x := by
  have he : es[i]? = some es[i] := List.getElem?_eq_getElem hi
  have hl : es[i].length = sz := hlen i _ he
  have hg : es.getD i [] = es[i] := by simp [List.getD, hi]
  refine ⟨(List.range sz).map (f i), ⟨by rw [hg, hl]; simp, fun y hy => by
    obtain ⟨j, hj, rfl⟩ := List.mem_map.1 hy
    exact h1 i j hi (by simpa using hj), fun j v x hv hx => ?_⟩, fun j x hx => ?_⟩
  · rw [hg] at hv
    simp only [List.getElem?_map, Option.map_eq_some_iff] at hx
    obtain ⟨j', hj', rfl⟩ := hx
    have : j' = j := by rw [List.getElem?_range] at hj'; · simpa using hj'.symm
                        · have := (List.getElem?_eq_some_iff.1 hj').1; simpa using this
    subst this
    exact hr i _ _ v he hv
  · simp only [List.getElem?_map, Option.map_eq_some_iff] at hx
    obtain ⟨j', hj', rfl⟩ := hx
    have hjlt := (List.getElem?_eq_some_iff.1 hj').1
    simp at hjlt
    have : j' = j := by rw [List.getElem?_range hjlt] at hj'; simpa using hj'.symm
    subst this
    exact hc i _ hi hjlt
theorem flatten_cut : ∀ {es : List (List V)} {sz i : Nat}, (∀ e : List V, e ∈ es → e.length = sz) → i < es.length → (es.flatten.drop (i * sz)).take sz = es.getD i []
  | [], _, _, _, h => by simp at h
  | e :: es, sz, 0, hl, _ => by simp [List.take_append_of_le_length (Nat.le_of_eq (hl e List.mem_cons_self).symm), hl e List.mem_cons_self, List.take_of_length_le]
  | e :: es, sz, i + 1, hl, h => by
    have he := hl e List.mem_cons_self
    have ih := flatten_cut (es := es) (sz := sz) (i := i) (fun e' h' => hl e' (List.mem_cons_of_mem _ h')) (by simpa using h)
    rw [List.flatten_cons, List.drop_append, List.drop_of_length_le (by rw [he, Nat.succ_mul]; omega), List.nil_append, he, show (i + 1) * sz - sz = i * sz by rw [Nat.succ_mul]; omega]
    simpa using ih
def Y1 (P : Program) (s : St) (σ : Hp) (x : V) (f : Value → Sem Value) (v : V) : Prop :=
  ∀ cx w p, HR cx σ w → LR cx σ s.l w → TR w cx x p → ∃ y, (∀ w' : World, (f p).run P w' = .ok y w') ∧ TR w cx v y
def YL (P : Program) (s : St) (σ : Hp) (x : V) (f : Value → Sem Value) (v : V) : Prop :=
  ∀ cx w p, HR cx σ w → LR cx σ s.l w → TR w cx x p → ∃ y b o, p = .pointer (some ⟨b, o, none⟩) ∧ (∀ w' : World, w'.heap[b]? = w.heap[b]? → (f p).run P w' = .ok y w') ∧ TR w cx v y ∧
    (∀ d off, x = .lp d off → b = cx.L d) ∧ (∀ es i off, x = .ip es i off → cx.I b)
theorem qLoad_sound {P : Program} {s : St} {σ : Hp} {t : TypeId} {k : V → Prop} {x : V} (hok : okT P t = true) (h0 : szT P t ≠ 0) (hag : aggT P t = false → szT P t = 1)
    (h : qLoad (aggT P t) (szT P t) s σ k x) : ∃ v, k v ∧ YL P s σ x (Instr.loadAt t) v := by
  unfold qLoad at h
  split at h
  · rename_i d off
    cases hl : s.l d with
    | none => simp [hl] at h
    | some cells =>
      simp only [hl] at h
      refine ⟨_, h.2, fun cx w p hH hL hx => ?_⟩
      cases hx with
      | v hv => cases hv
      | lp =>
        obtain ⟨T, cs, hg, hcs⟩ := hL.box d cells hl
        obtain ⟨y, hy, hv⟩ := run_loadVar_at (P := P) (o := 0) (b := cx.L d) hok rfl h0 hag hcs h.1
        refine ⟨y, _, _, rfl, fun w' hw' => ?_, .v hv, fun d' off' e => by injection e with e1; rw [e1], fun _ _ _ e => (by cases e)⟩
        have := hy w' (fun j x hx => by rw [cell_of_row w' _ _ _ _ _ (hw'.trans hg)]; simpa using hx)
        rw [Nat.zero_add] at this
        simp [Instr.loadAt, Instr.sureAddr, this]
  · rename_i es i off
    refine ⟨_, h.2, fun cx w p hH hL hx => ?_⟩
    cases hx with
    | v hv =>
      cases hv with
      | ip f hI hi hlen hc hr h1 =>
        obtain ⟨xs, hxs, hcell⟩ := row_of_elem hi h1 hlen hc hr
        obtain ⟨y, hy, hv⟩ := run_loadVar_at (P := P) hok rfl h0 hag hxs h.1
        refine ⟨y, _, _, rfl, fun w' hw' => ?_, .v hv, fun _ _ e => (by cases e), fun _ _ _ _ => hI⟩
        have := hy w' (fun j x hx => (World.cell?_of_block (a := ⟨_, _, none⟩) hw').trans (hcell j x hx))
        simp [Instr.loadAt, Instr.sureAddr, this]
  · rename_i g i off
    cases hg : σ.gr g with
    | none => simp [hg] at h
    | some x =>
      obtain ⟨T, es⟩ := x
      simp only [hg] at h
      obtain ⟨hlt, hl, hk⟩ := h
      refine ⟨_, hk, fun cx w p hH hL hx => ?_⟩
      cases hx with
      | v hv =>
        cases hv with
        | @gp _ _ _ b hkn hb =>
          obtain ⟨_, _, hel, xs, hown, hcs⟩ := hH.gr g T es hg
          have hrow := ((hcs.drop (i * cx.Z g)).take (cx.Z g))
          rw [flatten_cut hel hlt] at hrow
          obtain ⟨y, hy, hv⟩ := run_loadVar_at (P := P) (o := i * cx.Z g) (b := b) (off := off) hok rfl h0 hag hrow hl
          refine ⟨y, _, _, rfl, fun w' hw' => ?_, .v hv, fun _ _ e => (by cases e), fun _ _ _ e => (by cases e)⟩
          have := hy w' (fun j x hx => by
            refine (World.cell?_of_block (a := ⟨_, _, none⟩) hw').trans ?_
            rw [List.getElem?_take] at hx
            split at hx
            · rw [List.getElem?_drop] at hx
              have := hown.cells hb _ _ hx
              rwa [Addr.add_lit, Nat.zero_add] at this
            · cases hx)
          simp [Instr.loadAt, Instr.sureAddr, this]
  · rename_i g off
    cases hg : σ.obj g with
    | none => simp [hg] at h
    | some cells =>
      simp only [hg] at h
      obtain ⟨hmp, h⟩ := h
      refine ⟨_, h.2, fun cx w p hH hL hx => ?_⟩
      obtain rfl := hx.c_eq
      obtain ⟨o, hgg, hor⟩ := hH.obj g _ hg
      obtain ⟨T, cs, rfl, hcs⟩ := hor.row hmp
      obtain ⟨y, hy, hv⟩ := run_loadVar_at (P := P) (o := 0) (b := g) hok rfl h0 hag hcs h.1
      refine ⟨y, _, _, rfl, fun w' hw' => ?_, .v hv, fun _ _ e => (by cases e), fun _ _ _ e => (by cases e)⟩
      have := hy w' (fun j x hx => by rw [cell_of_row w' _ _ _ _ _ (hw'.trans hgg)]; simpa using hx)
      rw [Nat.zero_add] at this
      simp [Instr.loadAt, Instr.sureAddr, this]
  · cases h
def Y2 (P : Program) (s : St) (σ : Hp) (x y : V) (f : Value → Value → Sem Value) (v : V) : Prop :=
  ∀ cx w p q, HR cx σ w → LR cx σ s.l w → TR w cx x p → TR w cx y q → ∃ z, (∀ w' : World, (f p q).run P w' = .ok z w') ∧ TR w cx v z
def iBin (op : BinOp) (ka : IntKind) (a : Int) (kb : IntKind) (b : Int) (k : V → Prop) : Prop :=
  match op with
  | .shl => 0 ≤ b ∧ k (.c (.int ka (ka.wrap (a * 2 ^ (min b.toNat ka.bits)))))
  | .shr => 0 ≤ b ∧ k (.c (.int ka (a.fdiv (2 ^ (min b.toNat ka.bits)))))
  | .add => ka = kb ∧ k (.c (.int ka (ka.wrap (a + b))))
  | .sub => ka = kb ∧ k (.c (.int ka (ka.wrap (a - b))))
  | .mul => ka = kb ∧ k (.c (.int ka (ka.wrap (a * b))))
  | .quo => ka = kb ∧ b ≠ 0 ∧ k (.c (.int ka (ka.wrap (a.tdiv b))))
  | .rem => ka = kb ∧ b ≠ 0 ∧ k (.c (.int ka (a.tmod b)))
  | .and => ka = kb ∧ k (.c (.int ka (ka.wrap ((BitVec.ofInt ka.bits a &&& BitVec.ofInt ka.bits b).toNat : Int))))
  | .or => ka = kb ∧ k (.c (.int ka (ka.wrap ((BitVec.ofInt ka.bits a ||| BitVec.ofInt ka.bits b).toNat : Int))))
  | .xor => ka = kb ∧ k (.c (.int ka (ka.wrap ((BitVec.ofInt ka.bits a ^^^ BitVec.ofInt ka.bits b).toNat : Int))))
  | .andNot => ka = kb ∧ k (.c (.int ka (ka.wrap ((BitVec.ofInt ka.bits a &&& ~~~ BitVec.ofInt ka.bits b).toNat : Int))))
  | .eql => ka = kb ∧ k (.c (.bool (a == b)))
  | .neq => ka = kb ∧ k (.c (.bool (a != b)))
  | .lss => ka = kb ∧ k (.c (.bool (decide (a < b))))
  | .leq => ka = kb ∧ k (.c (.bool (decide (a ≤ b))))
  | .gtr => ka = kb ∧ k (.c (.bool (decide (a > b))))
  | .geq => ka = kb ∧ k (.c (.bool (decide (a ≥ b))))
def bfull (op : BinOp) (t : TypeId) (x y : Operand) (p q : Value) : Sem Value := do eqGuard op t x y p q; binOp op t p q
theorem iBin_sound {P : Program} {op : BinOp} {t : TypeId} {x y : Operand} {ka kb : IntKind} {a b : Int} {k : V → Prop} (h : iBin op ka a kb b k) :
  ∃ z, k (.c z) ∧ ∀ w, (bfull op t x y (.int ka a) (.int kb b)).run P w = .ok z w := by
 cases op <;> simp only [iBin] at h
 case shl => obtain ⟨h1, h2⟩ := h; refine ⟨_, h2, fun w => ?_⟩; simp [bfull, go_sem, Op.shift, Int.not_lt.2 h1]
 case shr => obtain ⟨h1, h2⟩ := h; refine ⟨_, h2, fun w => ?_⟩; simp [bfull, go_sem, Op.shift, Int.not_lt.2 h1]
 case quo => obtain ⟨rfl, h1, h2⟩ := h; refine ⟨_, h2, fun w => ?_⟩; simp [bfull, eqGuard_at_int, binOp_quo, Op.intDiv, h1]
 case rem => obtain ⟨rfl, h1, h2⟩ := h; refine ⟨_, h2, fun w => ?_⟩; simp [bfull, eqGuard_at_int, binOp_rem, Op.intDiv, h1]
 all_goals
  obtain ⟨rfl, h2⟩ := h
  refine ⟨_, h2, fun w => ?_⟩
  simp [bfull, eqGuard_at_int, binOp, Op.intArith, Op.intBits, Op.intCmp]
def sBin (op : BinOp) (a b : ByteArray) (k : V → Prop) : Prop :=
  match op with
  | .add => a.size + b.size ≤ 9223372036854775807 ∧ k (.c (.string (a ++ b)))
  | .eql => k (.c (.bool (a.toList == b.toList)))
  | .neq => k (.c (.bool (!(a.toList == b.toList))))
  | .lss => k (.c (.bool (Op.bytesLess a.toList b.toList)))
  | .leq => k (.c (.bool (Op.bytesLess a.toList b.toList || a.toList == b.toList)))
  | .gtr => k (.c (.bool (!(Op.bytesLess a.toList b.toList || a.toList == b.toList))))
  | .geq => k (.c (.bool (!(Op.bytesLess a.toList b.toList))))
  | _ => False
theorem sBin_sound {P : Program} {op : BinOp} {t : TypeId} {x y : Operand} {a b : ByteArray} {k : V → Prop} (h : sBin op a b k) :
    ∃ z, k (.c z) ∧ ∀ w, (bfull op t x y (.string a) (.string b)).run P w = .ok z w := by
  cases op <;> simp only [sBin] at h
  case add =>
    obtain ⟨h1, h2⟩ := h
    refine ⟨_, h2, fun w => ?_⟩
    have : ¬ ((a.size + b.size : Nat) : Int) > IntKind.i64.max := by rw [IntKind.max_i64]; omega
    simp only [bfull, eqGuard_at_string, binOp, Op.stringOp, Sem.run_bind, Sem.run_pure, Result.andThen_ok, if_neg this]
  all_goals first
    | exact h.elim
    | (refine ⟨_, h, fun w => ?_⟩
       simp [bfull, eqGuard_at_string, binOp, Op.stringOp])
inductive SK where | int (k : IntKind) | str | bool
def SK.fits : SK → Value → Bool
  | .int k, .int k' _ => k == k'
  | .str, .string _ => true
  | .bool, .bool _ => true
  | _, _ => false
def fitsAll : List SK → List Value → Bool
  | [], [] => true
  | k :: ks, x :: xs => k.fits x && fitsAll ks xs
  | _, _ => false
def cellEq : Value → Value → Bool
  | .int _ a, .int _ b => a == b
  | .string a, .string b => a.toList == b.toList
  | .bool a, .bool b => a == b
  | _, _ => false
def cellsEq : List Value → List Value → Bool
  | [], [] => true
  | x :: xs, y :: ys => cellEq x y && cellsEq xs ys
  | _, _ => false
def EqT (P : Program) (t : TypeId) (ks : List SK) : Prop :=
  (∀ op x y xs ys w, (eqGuard op t x y (.agg xs) (.agg ys)).run P w = .ok () w) ∧
  ∀ xs ys : List Value, fitsAll ks xs = true → fitsAll ks ys = true → ∀ w : World, (Op.equal t (.agg ⟨xs⟩) (.agg ⟨ys⟩)).run P w = .ok (cellsEq xs ys) w
def toC : V → Option Value
  | .c v => some v
  | _ => none
def toCs : List V → Option (List Value)
  | [] => some []
  | v :: vs => match toC v, toCs vs with
    | some x, some xs => some (x :: xs)
    | _, _ => none
theorem toCs_VRs {w : World} {cx : Cx} : ∀ {vs : List V} {us xs : List Value}, toCs vs = some us → VRs w cx vs xs → xs = us
  | [], us, xs, h, hv => by simp [toCs] at h; subst h; exact hv.unnil
  | v :: vs, us, xs, h, hv => by
    obtain ⟨x, ys, rfl, h0, h1, h2⟩ := hv.uncons
    cases v with
    | c u =>
      cases hs : toCs vs with
      | none => simp [toCs, toC, hs] at h
      | some us' =>
        simp [toCs, toC, hs] at h
        subst h
        cases h1
        rw [toCs_VRs hs h2]
    | _ => simp [toCs, toC] at h
structure Tab where
  eqk : TypeId → Option (List SK) := fun _ => none
  hp : Nat → Bool := fun _ => false
  own : Nat → Bool := fun _ => false
  sd : Nat → Bool := fun _ => false
  raw : FuncId → Bool := fun _ => false
def Tab.ok (T : Tab) (P : Program) : Prop := ∀ t ks, T.eqk t = some ks → EqT P t ks
def qBin (P : Program) (T : Tab) (op : BinOp) (t : TypeId) (k : V → Prop) : V → V → Prop
  | .c (.int ka a), .c (.int kb b) => iBin op ka a kb b k
  | .c (.string a), .c (.string b) => sBin op a b k
  | .c (.bool a), .c (.bool b) => P.underlying t = some .bool ∧ (match op with | .eql => k (.c (.bool (a == b))) | .neq => k (.c (.bool (!(a == b)))) | _ => False)
  | .agg xs, .agg ys => ∃ ks us vs, T.eqk t = some ks ∧ toCs xs = some us ∧ toCs ys = some vs ∧ fitsAll ks us = true ∧ fitsAll ks vs = true ∧
      (match op with | .eql => k (.c (.bool (cellsEq us vs))) | .neq => k (.c (.bool (!cellsEq us vs))) | _ => False)
  | .c (.pointer none), .c (.pointer none) => ∃ e, P.underlying t = some (.pointer e) ∧ (match op with | .eql => k (.c (.bool true)) | .neq => k (.c (.bool false)) | _ => False)
  | .c (.pointer (some _)), .c (.pointer none) => ∃ e, P.underlying t = some (.pointer e) ∧ (match op with | .eql => k (.c (.bool false)) | .neq => k (.c (.bool true)) | _ => False)
  | .lp _ _, .c (.pointer none) => ∃ e, P.underlying t = some (.pointer e) ∧ (match op with | .eql => k (.c (.bool false)) | .neq => k (.c (.bool true)) | _ => False)
  | _, _ => False
theorem run_eq_bool {P : Program} {t : TypeId} (h : P.underlying t = some .bool) (a b : Bool) (w : World) : (Op.equal t (.bool a) (.bool b)).run P w = .ok (a == b) w := by
 simp [Op.equal, Op.maxDepth, run_equalIn_bool' w 9999 t a b h]
theorem run_eq_nil {P : Program} {t e : TypeId} (h : P.underlying t = some (.pointer e)) (a : Option Addr) (w : World) : (Op.equal t (.pointer a) (.pointer none)).run P w = .ok a.isNone w := by
 have hd : ∀ d : Nat, (Op.equalIn (d + 1) t (.pointer a) (.pointer none)).run P w = .ok a.isNone w := fun d => by
  cases a <;> simp [Op.equalIn, run_underlying h]
 exact hd 9999
theorem qBin_sound {P : Program} {T : Tab} (hT : T.ok P) {s : St} {σ : Hp} {op : BinOp} {t : TypeId} {x y : Operand} {k : V → Prop} {u v : V} (h : qBin P T op t k u v) :
    ∃ z, k z ∧ Y2 P s σ u v (bfull op t x y) z := by
  unfold qBin at h
  split at h
  · obtain ⟨z, hz, hr⟩ := iBin_sound (P := P) (t := t) (x := x) (y := y) h
    exact ⟨_, hz, fun cx w p q _ _ hp hq => by rw [hp.c_eq, hq.c_eq]; exact ⟨z, hr, .v (.c z)⟩⟩
  · obtain ⟨z, hz, hr⟩ := sBin_sound (P := P) (t := t) (x := x) (y := y) h
    exact ⟨_, hz, fun cx w p q _ _ hp hq => by rw [hp.c_eq, hq.c_eq]; exact ⟨z, hr, .v (.c z)⟩⟩
  · rename_i a b
    obtain ⟨hu, h⟩ := h
    cases op <;> simp only at h <;> first
      | exact h.elim
      | (refine ⟨_, h, fun cx w p q _ _ hp hq => ?_⟩
         rw [hp.c_eq, hq.c_eq]
         exact ⟨_, fun w' => by simp only [bfull, eqGuard_at_bool, binOp, Sem.run_bind, Sem.run_pure, Result.andThen_ok, run_eq_bool hu], .v (.c _)⟩)
  · obtain ⟨ks, us, vs, hk, hx, hy, hfx, hfy, h⟩ := h
    have hE := hT t ks hk
    cases op <;> simp only at h <;> first
      | exact h.elim
      | (refine ⟨_, h, fun cx w p q _ _ hp hq => ?_⟩
         cases hp with
         | v hp =>
           cases hq with
           | v hq =>
             cases hp with
             | agg o1 hn1 h1 =>
               cases hq with
               | agg o2 hn2 h2 =>
                 have e1 := toCs_VRs hx ⟨hn1, o1, h1⟩
                 have e2 := toCs_VRs hy ⟨hn2, o2, h2⟩
                 subst e1; subst e2
                 exact ⟨_, fun w' => by simp only [bfull, binOp, Sem.run_bind, hE.1, Sem.run_pure, Result.andThen_ok, hE.2 _ _ hfx hfy], .v (.c _)⟩)
  · obtain ⟨e, hu, h⟩ := h
    cases op <;> simp only at h <;> first
      | exact h.elim
      | (refine ⟨_, h, fun cx w p q _ _ hp hq => ?_⟩
         rw [hp.c_eq, hq.c_eq]
         exact ⟨_, fun w' => by simp only [bfull, eqGuard_at_pointer, binOp, Sem.run_bind, Sem.run_pure, Result.andThen_ok, run_eq_nil hu]; rfl, .v (.c _)⟩)
  · obtain ⟨e, hu, h⟩ := h
    cases op <;> simp only at h <;> first
      | exact h.elim
      | (refine ⟨_, h, fun cx w p q _ _ hp hq => ?_⟩
         rw [hp.c_eq, hq.c_eq]
         exact ⟨_, fun w' => by simp only [bfull, eqGuard_at_pointer, binOp, Sem.run_bind, Sem.run_pure, Result.andThen_ok, run_eq_nil hu]; rfl, .v (.c _)⟩)
  · obtain ⟨e, hu, h⟩ := h
    cases op <;> simp only at h <;> first
      | exact h.elim
      | (refine ⟨_, h, fun cx w p q _ _ hp hq => ?_⟩
         rw [hq.c_eq]
         cases hp with
         | v hp => cases hp
         | lp =>
           exact ⟨_, fun w' => by simp only [bfull, eqGuard_at_pointer, binOp, Sem.run_bind, Sem.run_pure, Result.andThen_ok, run_eq_nil hu]; rfl, .v (.c _)⟩)
  · exact h.elim
def qUn (op : UnOp) (k : V → Prop) : V → Prop
  | .c (.bool b) => match op with | .not => k (.c (.bool (!b))) | _ => False
  | .c (.int ka n) => match op with
    | .neg => k (.c (.int ka (ka.wrap (0 - n))))
    | .xor => k (.c (.int ka (ka.wrap ((BitVec.ofInt ka.bits (if ka.signed then -1 else ka.max) ^^^ BitVec.ofInt ka.bits n).toNat : Int))))
    | _ => False
  | _ => False
theorem qUn_sound {P : Program} {s : St} {σ : Hp} {op : UnOp} {k : V → Prop} {u : V} (h : qUn op k u) : ∃ z, k z ∧ Y1 P s σ u (Op.unary op) z := by
 unfold qUn at h
 split at h
 ·split at h
  ·exact ⟨_, h, fun cx w p _ _ hp => by rw [hp.c_eq]; exact ⟨_, fun _ => rfl, .v (.c _)⟩⟩
  ·exact h.elim
 ·split at h
  ·exact ⟨_, h, fun cx w p _ _ hp => by rw [hp.c_eq]; exact ⟨_, fun _ => rfl, .v (.c _)⟩⟩
  ·exact ⟨_, h, fun cx w p _ _ hp => by rw [hp.c_eq]; exact ⟨_, fun _ => rfl, .v (.c _)⟩⟩
  ·exact h.elim
 ·exact h.elim
inductive Cnv where
  | toInt (k : IntKind) | strstr | toStr | toBytes (e : TypeId) | other
def cnvT (P : Program) (src dst : TypeId) : Cnv :=
  match P.underlying src, P.underlying dst with
  | some (.int _), some (.int k) => .toInt k
  | some .string, some .string => .strstr
  | some (.slice e), some .string => match P.underlying e with | some (.int .u8) => .toStr | _ => .other
  | some .string, some (.slice e) => match P.underlying e with | some (.int .u8) => .toBytes e | _ => .other
  | _, _ => .other
def encU8 (b : UInt8) : List V := [.c (.int .u8 (b.toNat : Int))]
def qConv (P : Program) (src dst : TypeId) (k : V → Prop) (x : V) : Prop :=
  match cnvT P src dst with
  | .toInt ki => match x with | .c (.int _ n) => k (.c (.int ki (ki.wrap n))) | _ => False
  | .strstr => match x with | .c (.string s) => k (.c (.string s)) | _ => False
  | _ => False
theorem strOfNums_bytes (bs : List UInt8) : strOfNums (bs.map fun b => (b.toNat : Int)) = ⟨bs.toArray⟩ := by
 apply congrArg ByteArray.mk
 simp [Function.comp_def]
theorem qConv_sound {P : Program} {s : St} {σ : Hp} {src dst : TypeId} {k : V → Prop} {u : V} (h : qConv P src dst k u) : ∃ z, k z ∧ Y1 P s σ u (convert src dst) z := by
  unfold qConv at h
  cases hc : cnvT P src dst with
  | toInt ki =>
    simp only [hc] at h
    have hsd : ∃ k0, P.underlying src = some (.int k0) ∧ P.underlying dst = some (.int ki) := by
      unfold cnvT at hc
      split at hc
      · injection hc with hc; subst hc; exact ⟨_, by assumption, by assumption⟩
      · cases hc
      · split at hc <;> cases hc
      · split at hc <;> cases hc
      · cases hc
    obtain ⟨k0, hs, hd⟩ := hsd
    split at h
    · exact ⟨_, h, fun cx w p _ _ hp => by
        rw [hp.c_eq]; exact ⟨_, fun _ => by simp [convert, run_underlying hs, run_underlying hd, Conv.intToInt], .v (.c _)⟩⟩
    · exact h.elim
  | strstr =>
    simp only [hc] at h
    have hsd : P.underlying src = some .string ∧ P.underlying dst = some .string := by
      unfold cnvT at hc
      split at hc
      · cases hc
      · exact ⟨by assumption, by assumption⟩
      · split at hc <;> cases hc
      · split at hc <;> cases hc
      · cases hc
    obtain ⟨hs, hd⟩ := hsd
    split at h
    · exact ⟨_, h, fun cx w p _ _ hp => by
        rw [hp.c_eq]; exact ⟨_, fun _ => by simp [convert, run_underlying hs, run_underlying hd], .v (.c _)⟩⟩
    · exact h.elim
  | toStr => simp only [hc] at h
  | toBytes e => simp only [hc] at h
  | other => simp only [hc] at h
def slT (P : Program) (t : TypeId) : Bool := match P.underlying t with | some (.slice _) => true | _ => false
theorem slT_eq {P : Program} {t : TypeId} (h : slT P t = true) : P.underlying t = some (.slice (P.elem t)) := by
 unfold slT at h
 split at h
 ·rename_i e he; simp [Program.elem, he]
 ·cases h
def strT (P : Program) (t : TypeId) : Bool := match P.underlying t with | some .string => true | _ => false
theorem strT_eq {P : Program} {t : TypeId} (h : strT P t = true) : P.underlying t = some .string := by
 unfold strT at h
 split at h
 ·assumption
 ·cases h
def loV : Option V → Option Int
  | none => some 0
  | some (.c (.int _ i)) => some i
  | _ => none
def hiV (n : Nat) : Option V → Option Int
  | none => some n
  | some (.c (.int _ i)) => some i
  | _ => none
def qSlice (P : Program) (t : TypeId) (lo hi : Option V) (k : V → Prop) : V → Prop
  | .sl es => match loV lo, hiV es.length hi with
    | some l, some h => slT P t = true ∧ szT P (P.elem t) ≠ 0 ∧ 0 ≤ l ∧ l ≤ h ∧ h ≤ es.length ∧ (∀ e : List V, e ∈ es → e.length = szT P (P.elem t)) ∧ k (.sl ((es.drop l.toNat).take (h.toNat - l.toNat)))
    | _, _ => False
  | .c (.string s) => match loV lo, hiV s.size hi with
    | some l, some h => strT P t = true ∧ 0 ≤ l ∧ l ≤ h ∧ h ≤ s.size ∧ k (.c (.string (s.extract l.toNat h.toNat)))
    | _, _ => False
  | .c (.slice none 0 0) => match loV lo, hiV 0 hi with
    | some l, some h => slT P t = true ∧ szT P (P.elem t) ≠ 0 ∧ l = 0 ∧ h = 0 ∧ k (.c (.slice none 0 0))
    | _, _ => False
  | _ => False
def TRo (w : World) (cx : Cx) : Option V → Option Value → Prop
  | none, none => True
  | some v, some x => TR w cx v x
  | _, _ => False
theorem run_bounds {P : Program} {w w' : World} {isS : Bool} {n cap : Nat} {lo hi : Option V} {lo' hi' : Option Value} {l h : Int} (hl : loV lo = some l) (hh : hiV n hi = some h)
    (h0 : 0 ≤ l) (h1 : l ≤ h) (h2 : h ≤ cap) (cx : Cx)
    (tl : TRo w cx lo lo')
    (th : TRo w cx hi hi') :
    (Instr.sliceBounds isS n cap lo' hi' none).run P w' = .ok (l.toNat, h.toNat, cap) w' := by
  have hhn : (0 : Int) ≤ h := by omega
  have eh : (h.toNat : Int) = h := Int.toNat_of_nonneg hhn
  cases lo with
  | none =>
    simp only [loV, Option.some.injEq] at hl
    subst hl
    cases lo' with
    | some x => exact tl.elim
    | none =>
      cases hi with
      | none =>
        simp only [hiV, Option.some.injEq] at hh
        cases hi' with
        | some x => exact th.elim
        | none => subst hh; simp [Instr.sliceBounds]
      | some v =>
        cases hi' with
        | none => exact th.elim
        | some x =>
          cases v with
          | c u =>
            cases u <;> simp [hiV] at hh
            subst hh
            rw [th.c_eq]
            simp [Instr.sliceBounds, run_sliceBound, h1, h2]
          | _ => simp [hiV] at hh
  | some v =>
    cases lo' with
    | none => exact tl.elim
    | some x =>
      cases v with
      | c u =>
        cases u <;> simp [loV] at hl
        subst hl
        rw [tl.c_eq]
        cases hi with
        | none =>
          simp only [hiV, Option.some.injEq] at hh
          cases hi' with
          | some x => exact th.elim
          | none => subst hh; simp [Instr.sliceBounds, run_sliceBound, h0, h1]
        | some v =>
          cases hi' with
          | none => exact th.elim
          | some x =>
            cases v with
            | c u =>
              cases u <;> simp [hiV] at hh
              subst hh
              rw [th.c_eq]
              simp [Instr.sliceBounds, run_sliceBound, h0, h1, h2, hhn, eh]
            | _ => simp [hiV] at hh
      | _ => simp [loV] at hl
theorem VR.cut {w : World} {cx : Cx} {es : List (List V)} {sz b o cap l h : Nat} (f : Nat → Nat → Value) (hI : cx.I b) (hcap : es.length ≤ cap)
  (hlen : ∀ (i : Nat) (e : List V), es[i]? = some e → e.length = sz)
  (hc : ∀ i j, i < es.length → j < sz → w.cell? ⟨b, o + i * sz + j, none⟩ = some (f i j))
  (hr : ∀ (i : Nat) (e : List V) (j : Nat) (v : V), es[i]? = some e → e[j]? = some v → VR w cx v (f i j)) (h1' : ∀ i j, i < es.length → j < sz → (f i j).oneCell' = true) (h1 : l ≤ h) (h2 : h ≤ es.length) :
  VR w cx (.sl ((es.drop l).take (h - l))) (sliced (some ⟨b, o, none⟩) l h cap sz) := by
 have hn : ((es.drop l).take (h - l)).length = h - l := by simp; omega
 have hget : ∀ i, i < h - l → ((es.drop l).take (h - l))[i]? = es[l + i]? := fun i hi => by rw [List.getElem?_take, if_pos hi, List.getElem?_drop]
 have hlt : ∀ i (e : List V), ((es.drop l).take (h - l))[i]? = some e → i < h - l := fun i e he => by
  have := (List.getElem?_eq_some_iff.1 he).1; omega
 unfold sliced
 by_cases hm : cap = l
 ·have hz : h - l = 0 := by omega
  rw [if_pos hm, hz]
  simp only [List.take_zero]
  exact VR.sl (es := []) (sz := sz) f hI (by simp) (fun i e he => by simp at he) (fun i j hi => by simp at hi) (fun i e j v he => by simp at he) (fun i j hi => by simp at hi)
 ·rw [if_neg hm]
  have := VR.sl (w := w) (cx := cx) (es := (es.drop l).take (h - l)) (sz := sz) (b := b) (o := o + l * sz) (cap := cap - l) (fun i j => f (l + i) j) hI (by omega)
   (fun i e he => hlen (l + i) e (by rw [← hget i (hlt i e he)]; exact he))
   (fun i j hi hj => by
    rw [hn] at hi
    have := hc (l + i) j (by omega) hj
    rw [show o + l * sz + i * sz + j = o + (l + i) * sz + j by rw [Nat.add_mul]; omega]; exact this)
   (fun i e j v he hv => hr (l + i) e j v (by rw [← hget i (hlt i e he)]; exact he) hv)
   (fun i j hi hj => h1' (l + i) j (by rw [hn] at hi; omega) hj)
  rw [hn] at this
  simpa [Addr.add_lit] using this
theorem qSlice_sound {P : Program} {s : St} {σ : Hp} {t : TypeId} {lo hi : Option V} {k : V → Prop} {u : V} (h : qSlice P t lo hi k u) :
    ∃ z, k z ∧ ∀ cx w p lo' hi', HR cx σ w → LR cx σ s.l w → TR w cx u p →
      TRo w cx lo lo' →
      TRo w cx hi hi' →
      ∃ y, (∀ w' : World, (Instr.sliceAt t p lo' hi' none).run P w' = .ok y w') ∧ TR w cx z y := by
  unfold qSlice at h
  split at h
  · rename_i es
    cases hl : loV lo with
    | none => simp [hl] at h
    | some l =>
      cases hh : hiV es.length hi with
      | none => simp [hl, hh] at h
      | some h' =>
        simp only [hl, hh] at h
        obtain ⟨ht, hz, h0, h1, h2, hes, hk⟩ := h
        refine ⟨_, hk, fun cx w p lo' hi' hH hL hp tl th => ?_⟩
        cases hp with
        | v hp =>
          generalize hes' : es = es' at hp
          cases hp with
          | nils =>
            subst hes'
            have e1 : l = 0 := by simp at h2; omega
            have e2 : h' = 0 := by simp at h2; omega
            refine ⟨.slice none 0 0, fun w' => ?_, ?_⟩
            · have hb := run_bounds (P := P) (w := w) (w' := w') (isS := true) (n := 0) (cap := 0) hl hh h0 h1 (by simpa using h2) cx tl th
              rw [run_sliceAt_slice w' t _ _ _ _ (slT_eq ht), run_slice_any w' t none 0 0 (slT_eq ht), hb]
              simp [run_sizeOf rfl hz, sliced, e1, e2]
            · simpa using TR.v VR.nils
          | nile a =>
            subst hes'
            have e1 : l = 0 := by simp at h2; omega
            have e2 : h' = 0 := by simp at h2; omega
            refine ⟨.slice (some a) 0 0, fun w' => ?_, ?_⟩
            · have hb := run_bounds (P := P) (w := w) (w' := w') (isS := true) (n := 0) (cap := 0) hl hh h0 h1 (by simpa using h2) cx tl th
              rw [run_sliceAt_slice w' t _ _ _ _ (slT_eq ht), run_slice_any w' t (some a) 0 0 (slT_eq ht), hb]
              simp [run_sizeOf rfl hz, sliced, e1, e2]
            · simpa using TR.v (VR.nile a)
          | sl f hI hcap hlen hcell hr h1' =>
            subst hes'
            rename_i sz b o cap
            refine ⟨sliced (some ⟨b, o, none⟩) l.toNat h'.toNat cap (szT P (P.elem t)), fun w' => ?_, ?_⟩
            · have hb := run_bounds (P := P) (w := w) (w' := w') (isS := true) (n := es.length) (cap := cap) hl hh h0 h1 (by omega) cx tl th
              rw [run_sliceAt_slice w' t _ _ _ _ (slT_eq ht), run_slice_any w' t _ _ _ (slT_eq ht), hb]
              simp [run_sizeOf rfl hz]
            · cases es with
              | nil =>
                have e1 : l.toNat = 0 := by simp at h2; omega
                have e2 : h'.toNat = 0 := by simp at h2; omega
                have := VR.cut (l := 0) (h := 0) f hI hcap hlen hcell hr h1' (by omega) (by simp)
                rw [e1, e2]
                refine .v ?_
                have e3 : sliced (some ⟨b, o, none⟩) 0 0 cap (szT P (P.elem t)) = sliced (some ⟨b, o, none⟩) 0 0 cap sz := by simp [sliced]
                rw [e3]; exact this
              | cons e es =>
                have hsz : szT P (P.elem t) = sz := by rw [← hes e List.mem_cons_self]; exact hlen 0 e rfl
                rw [hsz]
                exact .v (VR.cut f hI hcap hlen hcell hr h1' (by omega) (by omega))
  · rename_i str
    cases hl : loV lo with
    | none => simp [hl] at h
    | some l =>
      cases hh : hiV str.size hi with
      | none => simp [hl, hh] at h
      | some h' =>
        simp only [hl, hh] at h
        obtain ⟨ht, h0, h1, h2, hk⟩ := h
        refine ⟨_, hk, fun cx w p lo' hi' hH hL hp tl th => ?_⟩
        rw [hp.c_eq]
        refine ⟨_, fun w' => ?_, .v (.c _)⟩
        have hb := run_bounds (P := P) (w := w) (w' := w') (isS := false) (n := str.size) (cap := str.size) hl hh h0 h1 (by omega) cx tl th
        rw [run_sliceAt_string w' t _ _ _ _ (strT_eq ht)]
        simp [Instr.slice, run_underlying (strT_eq ht), hb]
  · cases hl : loV lo with
    | none => simp [hl] at h
    | some l =>
      cases hh : hiV 0 hi with
      | none => simp [hl, hh] at h
      | some h' =>
        simp only [hl, hh] at h
        obtain ⟨ht, hz, rfl, rfl, hk⟩ := h
        refine ⟨_, hk, fun cx w p lo' hi' hH hL hp tl th => ?_⟩
        rw [hp.c_eq]
        refine ⟨_, fun w' => ?_, .v (.c _)⟩
        have hb := run_bounds (P := P) (w := w) (w' := w') (isS := true) (n := 0) (cap := 0) hl hh (by omega) (by omega) (by omega) cx tl th
        rw [run_sliceAt_slice w' t _ _ _ _ (slT_eq ht), run_slice_any w' t _ _ _ (slT_eq ht), hb]
        simp [run_sizeOf rfl hz, sliced]
  · exact h.elim
def shiftV (n : Nat) : V → Option V
  | .lp d off => some (.lp d (off + n))
  | .ip es i off => some (.ip es i (off + n))
  | .gp g i off => some (.gp g i (off + n))
  | .c (.pointer (some ⟨g, off, none⟩)) => some (.c (.pointer (some ⟨g, off + n, none⟩)))
  | _ => none
theorem shiftV_TR {w : World} {cx : Cx} {n : Nat} {u v : V} {p : Value} (h : shiftV n u = some v) (hp : TR w cx u p) :
    ∃ b o, p = .pointer (some ⟨b, o, none⟩) ∧ TR w cx v (.pointer (some ⟨b, o + n, none⟩)) := by
  unfold shiftV at h
  split at h
  · injection h with h; subst h
    cases hp with
    | v hp => cases hp
    | lp d off => exact ⟨_, _, rfl, .lp _ _⟩
  · injection h with h; subst h
    cases hp with
    | v hp =>
      cases hp with
      | ip f hI hi hlen hc hr h1 => exact ⟨_, _, rfl, .v (by rw [Nat.add_assoc]; exact .ip f hI hi hlen hc hr h1)⟩
  · injection h with h; subst h
    cases hp with
    | v hp =>
      cases hp with
      | gp hk hg => exact ⟨_, _, rfl, .v (by rw [Nat.add_assoc]; exact .gp hk hg)⟩
  · injection h with h; subst h
    exact ⟨_, _, hp.c_eq, .v (.c _)⟩
  · cases h
theorem run_fieldAt {P : Program} {w : World} {t f k b o : Nat} (h : offT P t f = some k) : (Instr.fieldAt t (.pointer (some ⟨b, o, none⟩)) f).run P w = .ok (.pointer (some ⟨b, o + k, none⟩)) w := by
  unfold offT at h
  split at h
  · rename_i fs hfs
    cases hf : fs[f]? with
    | none => simp [hf] at h
    | some fl =>
      simp only [hf, Option.bind_some] at h
      split at h
      · cases h
      · rename_i hz
        injection h with h
        subst h
        have hz' : szT P fl.type ≠ 0 := hz
        simp [Instr.fieldAt, run_underlying hfs, hf, Instr.sureAddr, fieldPlace, run_sizeOf (P := P) (t := fl.type) rfl hz', hz', Addr.add_lit]
  · cases h
def qField (P : Program) (t f : Nat) (k : V → Prop) (u : V) : Prop :=
  match offT P t f with
  | some n => match shiftV n u with | some v => k v | none => False
  | none => False
theorem qField_sound {P : Program} {s : St} {σ : Hp} {t f : Nat} {k : V → Prop} {u : V} (h : qField P t f k u) : ∃ z, k z ∧ Y1 P s σ u (fun p => Instr.fieldAt t p f) z := by
  unfold qField at h
  cases ho : offT P t f with
  | none => simp [ho] at h
  | some n =>
    simp only [ho] at h
    cases hs : shiftV n u with
    | none => simp [hs] at h
    | some v =>
      simp only [hs] at h
      refine ⟨v, h, fun cx w p _ _ hp => ?_⟩
      obtain ⟨b, o, rfl, hv⟩ := shiftV_TR hs hp
      exact ⟨_, fun _ => run_fieldAt ho, hv⟩
def qIndexAddr (P : Program) (σ : Hp) (t : TypeId) (k : V → Prop) : V → V → Prop
  | .sl es, .c (.int _ i) => slT P t = true ∧ szT P (P.elem t) ≠ 0 ∧ 0 ≤ i ∧ i < es.length ∧ (es.getD i.toNat []).length = szT P (P.elem t) ∧ k (.ip es i.toNat 0)
  | .gl g, .c (.int _ i) => match σ.gr g with
    | some (_, es) => slT P t = true ∧ szT P (P.elem t) ≠ 0 ∧ 0 ≤ i ∧ i < es.length ∧ (es.getD i.toNat []).length = szT P (P.elem t) ∧ k (.gp g i.toNat 0)
    | none => False
  | .gv g o n, .c (.int _ i) => match σ.gr g with
    | some (_, es) => slT P t = true ∧ szT P (P.elem t) ≠ 0 ∧ 0 ≤ i ∧ i < n ∧ o + n ≤ es.length ∧ (es.getD (o + i.toNat) []).length = szT P (P.elem t) ∧ k (.gp g (o + i.toNat) 0)
    | none => False
  | u, .c (.int _ i) => ∃ n e v, P.underlying t = some (.array n e) ∧ szT P e ≠ 0 ∧ 0 ≤ i ∧ i < n ∧ shiftV (i.toNat * szT P e) u = some v ∧ k v
  | _, _ => False
theorem ownsRow_form {w : World} {T sz n : Nat} {v : Value} {xs : List Value} (h : w.ownsRow 0 T sz v n xs) (hn : 0 < n) :
  ∃ g cap cur, v = .slice (some ⟨g, 0, none⟩) n cap ∧ v.ownBlock = some g ∧ w.heap[g]? = some (.cells cur T (0, 0)) ∧ n ≤ cap ∧ cur.size = cap * sz := by
 rcases h.2 with ⟨_, h0⟩ | ⟨g, cap, cur, rfl, _, hg, hc, _, hs, _⟩
 ·omega
 ·exact ⟨g, cap, cur, rfl, rfl, hg, hc, hs⟩
theorem qIndexAddr_sound {P : Program} {s : St} {σ : Hp} {t : TypeId} {k : V → Prop} {u v : V} (h : qIndexAddr P σ t k u v) : ∃ z, k z ∧ Y2 P s σ u v (Instr.indexAt t) z := by
  unfold qIndexAddr at h
  split at h
  · rename_i es ki i
    obtain ⟨ht, hz, h0, h1, hl, hk⟩ := h
    refine ⟨_, hk, fun cx w p q _ _ hp hq => ?_⟩
    rw [hq.c_eq]
    have hlt : i.toNat < es.length := by omega
    cases hp with
    | v hp =>
      cases hp with
      | nils => simp at hlt
      | nile a => simp at hlt
      | sl f hI hcap hlen hcell hr h1' =>
        rename_i sz b o cap
        have hsz : szT P (P.elem t) = sz := by rw [← hl]; have := hlen i.toNat es[i.toNat] (List.getElem?_eq_getElem hlt); simpa [List.getD, hlt] using this
        refine ⟨_, fun _ => ?_, .v (VR.ip f hI hlt hlen hcell hr h1')⟩
        simp [Instr.indexAt, asIntOf, run_underlying (slT_eq ht), h0, h1, run_sizeOf (P := P) (t := P.elem t) rfl hz, Addr.add_lit, hsz]
  · rename_i g ki i
    cases hg : σ.gr g with
    | none => simp [hg] at h
    | some x =>
      obtain ⟨T, es⟩ := x
      simp only [hg] at h
      obtain ⟨ht, hz, h0, h1, hl, hk⟩ := h
      refine ⟨_, hk, fun cx w p q hH _ hp hq => ?_⟩
      rw [hq.c_eq]
      have hlt : i.toNat < es.length := by omega
      obtain ⟨hkn, _, hel, xs, hown, _⟩ := hH.gr g T es hg
      obtain ⟨b, cap, cur, hM, hb, hbl, hcap, hcs⟩ := ownsRow_form hown (by omega)
      have hsz : szT P (P.elem t) = cx.Z g := by
        rw [← hl]
        have e : es.getD i.toNat [] = es[i.toNat] := by simp [List.getD, hlt]
        rw [e]; exact hel _ (List.getElem_mem _)
      cases hp with
      | v hp =>
        cases hp with
        | gl _ _ =>
          refine ⟨_, fun _ => ?_, .v (VR.gp (i := i.toNat) (off := 0) hkn hb)⟩
          rw [hM]
          simp [Instr.indexAt, asIntOf, run_underlying (slT_eq ht), h0, h1, run_sizeOf (P := P) (t := P.elem t) rfl hz, Addr.add_lit, hsz]
  · rename_i g o n ki i
    cases hg : σ.gr g with
    | none => simp [hg] at h
    | some x =>
      obtain ⟨T, es⟩ := x
      simp only [hg] at h
      obtain ⟨ht, hz, h0, h1, h2, hl, hk⟩ := h
      refine ⟨_, hk, fun cx w p q hH _ hp hq => ?_⟩
      rw [hq.c_eq]
      have hlt : o + i.toNat < es.length := by omega
      obtain ⟨hkn, _, hel, xs, hown, _⟩ := hH.gr g T es hg
      have hsz : szT P (P.elem t) = cx.Z g := by
        rw [← hl]
        have e : es.getD (o + i.toNat) [] = es[o + i.toNat] := by simp [List.getD, hlt]
        rw [e]; exact hel _ (List.getElem_mem _)
      cases hp with
      | v hp =>
        cases hp with
        | gv _ hg hn =>
          obtain ⟨b, hb2, rfl⟩ := hg (by omega)
          refine ⟨_, fun _ => ?_, .v (VR.gp (i := o + i.toNat) (off := 0) hkn hb2)⟩
          simp [Instr.indexAt, asIntOf, run_underlying (slT_eq ht), h0, h1, run_sizeOf (P := P) (t := P.elem t) rfl hz, Addr.add_lit, hsz, Nat.add_mul]
  · rename_i ki i _ _ _
    obtain ⟨n, e, v, ht, hz, h0, h1, hs, hk⟩ := h
    refine ⟨_, hk, fun cx w p q _ _ hp hq => ?_⟩
    rw [hq.c_eq]
    obtain ⟨b, o, rfl, hv⟩ := shiftV_TR hs hp
    refine ⟨_, fun _ => ?_, hv⟩
    simp [Instr.indexAt, asIntOf, run_underlying ht, Instr.sureAddr, h0, h1, run_sizeOf (P := P) (t := e) rfl hz, Addr.add_lit]
  · exact h.elim
def qIndex (P : Program) (t : TypeId) (k : V → Prop) : V → V → Prop
  | .c (.string s), .c (.int _ i) => strT P t = true ∧ 0 ≤ i ∧ i < s.size ∧ k (.c (.int .u8 ((s.data.getD i.toNat 0).toNat : Int)))
  | .agg xs, .c (.int _ i) => ∃ n e, P.underlying t = some (.array n e) ∧ okT P e = true ∧ szT P e ≠ 0 ∧ (aggT P e = false → szT P e = 1) ∧ 0 ≤ i ∧ i < n ∧ i.toNat * szT P e + szT P e ≤ xs.length ∧ k (cut (aggT P e) (szT P e) xs (i.toNat * szT P e))
  | _, _ => False
theorem run_part {P : Program} {w : World} {cx : Cx} {t : TypeId} {off : Nat} {vs : List V} {xs : List Value} (hok : okT P t = true) (h0 : szT P t ≠ 0) (hag : aggT P t = false → szT P t = 1)
    (hv : VRs w cx vs xs) (hlen : off + szT P t ≤ vs.length) : ∃ x, (∀ w' : World, (part t ⟨xs⟩ off).run P w' = .ok x w') ∧ VR w cx (cut (aggT P t) (szT P t) vs off) x := by
  have hxl : off + szT P t ≤ xs.length := by rw [← hv.1]; exact hlen
  cases hA : aggT P t with
  | true =>
    refine ⟨.agg ⟨(xs.drop off).take (szT P t)⟩, fun w' => ?_, ?_⟩
    · unfold part
      rw [Sem.run_bind, run_isAgg hok, hA]
      simp [run_sizeOf (P := P) (t := t) rfl h0]
    · simp only [cut, if_true]
      exact ((hv.drop off).take _).agg
  | false =>
    have h1 := hag hA
    have hlt : off < xs.length := by omega
    refine ⟨xs[off], fun w' => by unfold part; rw [Sem.run_bind, run_isAgg hok, hA]; simp [List.getElem?_eq_getElem hlt], ?_⟩
    simp only [cut, Bool.false_eq_true, if_false]
    have hlt' : off < vs.length := by omega
    have e : vs.getD off .junk = vs[off] := by simp [List.getD, hlt']
    rw [e]
    exact hv.2.2 off _ _ (List.getElem?_eq_getElem hlt') (List.getElem?_eq_getElem hlt)
theorem qIndex_sound {P : Program} {s : St} {σ : Hp} {t : TypeId} {k : V → Prop} {u v : V} (h : qIndex P t k u v) : ∃ z, k z ∧ Y2 P s σ u v (Instr.index t) z := by
  unfold qIndex at h
  split at h
  · rename_i str ki i
    obtain ⟨ht, h0, h1, hk⟩ := h
    refine ⟨_, hk, fun cx w p q _ _ hp hq => ?_⟩
    rw [hq.c_eq, hp.c_eq]
    refine ⟨_, fun _ => ?_, .v (.c _)⟩
    have hlt : i.toNat < str.size := by omega
    have hlt' : i.toNat < str.data.size := hlt
    have e : str[i.toNat]? = some (str.data.getD i.toNat 0) := by
      rw [getElem?_pos str i.toNat hlt]
      simp only [Array.getD]
      rw [dif_pos hlt']
      rfl
    simp [Instr.index, asIntOf, run_underlying (strT_eq ht), h0, e]
  · rename_i xs ki i
    obtain ⟨n, e, ht, hok, hz, hag, h0, h1, hl, hk⟩ := h
    refine ⟨_, hk, fun cx w p q _ _ hp hq => ?_⟩
    rw [hq.c_eq]
    cases hp with
    | v hp =>
      cases hp with
      | agg o1 hn hh =>
        obtain ⟨x, hx, hv⟩ := run_part (P := P) (w := w) hok hz hag ⟨hn, o1, hh⟩ hl
        refine ⟨x, fun _ => ?_, .v hv⟩
        simp [Instr.index, asIntOf, run_underlying ht, h0, h1, run_sizeOf (P := P) (t := e) rfl hz, hx]
  · exact h.elim
def qFieldV (P : Program) (t f : Nat) (k : V → Prop) : V → Prop
  | .agg xs => ∃ fs fl, P.underlying t = some (.struct fs) ∧ fs[f]? = some fl ∧ okT P fl.type = true ∧ szT P fl.type ≠ 0 ∧ (aggT P fl.type = false → szT P fl.type = 1) ∧ fl.offset + szT P fl.type ≤ xs.length ∧
      k (cut (aggT P fl.type) (szT P fl.type) xs fl.offset)
  | _ => False
theorem qFieldV_sound {P : Program} {s : St} {σ : Hp} {t f : Nat} {k : V → Prop} {u : V} (h : qFieldV P t f k u) : ∃ z, k z ∧ Y1 P s σ u (fun p => Instr.field t p f) z := by
  unfold qFieldV at h
  split at h
  · rename_i xs
    obtain ⟨fs, fl, ht, hf, hok, hz, hag, hl, hk⟩ := h
    refine ⟨_, hk, fun cx w p _ _ hp => ?_⟩
    cases hp with
    | v hp =>
      cases hp with
      | agg o1 hn hh =>
        obtain ⟨x, hx, hv⟩ := run_part (P := P) (w := w) hok hz hag ⟨hn, o1, hh⟩ hl
        exact ⟨x, fun _ => by simp [Instr.field, run_underlying ht, hf, asAgg, hx], .v hv⟩
  · exact h.elim
def qExtract (i : Nat) (k : V → Prop) : V → Prop
  | .tup vs => i < vs.length ∧ k (vs.getD i .junk)
  | _ => False
theorem qExtract_sound {P : Program} {s : St} {σ : Hp} {i : Nat} {k : V → Prop} {u : V} (h : qExtract i k u) : ∃ z, k z ∧ Y1 P s σ u (fun p => Instr.extract p i) z := by
  unfold qExtract at h
  split at h
  · rename_i vs
    obtain ⟨hlt, hk⟩ := h
    refine ⟨_, hk, fun cx w p _ _ hp => ?_⟩
    cases hp with
    | v hp =>
      cases hp with
      | tup hn hh =>
        rename_i xs
        have hlt' : i < xs.length := by omega
        refine ⟨xs[i], fun _ => by simp [Instr.extract, List.getElem?_eq_getElem hlt'], .v ?_⟩
        have e : vs.getD i .junk = vs[i] := by simp [List.getD, hlt]
        rw [e]
        exact hh i _ _ (List.getElem?_eq_getElem hlt) (List.getElem?_eq_getElem hlt')
  · exact h.elim
def qLen (P : Program) (σ : Hp) (t : TypeId) (k : V → Prop) : V → Prop
  | .sl es => slT P t = true ∧ k (.c (.int .i64 (es.length : Int)))
  | .gl g => match σ.gr g with
    | some (_, es) => slT P t = true ∧ k (.c (.int .i64 (es.length : Int)))
    | none => False
  | .c (.string s) => strT P t = true ∧ k (.c (.int .i64 (s.size : Int)))
  | .c (.slice _ n _) => slT P t = true ∧ k (.c (.int .i64 (n : Int)))
  | .gv _ _ n => slT P t = true ∧ k (.c (.int .i64 (n : Int)))
  | _ => False
theorem qLen_sound {P : Program} {s : St} {σ : Hp} {t ty : TypeId} {k : V → Prop} {u : V} (h : qLen P σ t k u) : ∃ z, k z ∧ Y1 P s σ u (fun p => Builtin.len_ #[t] ty #[p]) z := by
  unfold qLen at h
  split at h
  · obtain ⟨ht, hk⟩ := h
    refine ⟨_, hk, fun cx w p _ _ hp => ?_⟩
    cases hp with
    | v hp => cases hp <;> exact ⟨_, fun _ => by simp [Builtin.len_, run_underlying (slT_eq ht), goInt], .v (.c _)⟩
  · rename_i g
    cases hg : σ.gr g with
    | none => simp [hg] at h
    | some x =>
      obtain ⟨T, es⟩ := x
      simp only [hg] at h
      obtain ⟨ht, hk⟩ := h
      refine ⟨_, hk, fun cx w p hH _ hp => ?_⟩
      obtain ⟨hkn, _, hel, xs, hown, _⟩ := hH.gr g T es hg
      cases hp with
      | v hp =>
        cases hp with
        | gl _ _ =>
          rcases hown.2 with ⟨hM, h0⟩ | ⟨b, cap, cur, hM, _⟩
          · rw [hM]; exact ⟨_, fun _ => by simp [Builtin.len_, run_underlying (slT_eq ht), goInt, h0], .v (.c _)⟩
          · rw [hM]; exact ⟨_, fun _ => by simp [Builtin.len_, run_underlying (slT_eq ht), goInt], .v (.c _)⟩
  · obtain ⟨ht, hk⟩ := h
    refine ⟨_, hk, fun cx w p _ _ hp => ?_⟩
    rw [hp.c_eq]
    exact ⟨_, fun _ => by simp [Builtin.len_, run_underlying (strT_eq ht), goInt], .v (.c _)⟩
  · obtain ⟨ht, hk⟩ := h
    refine ⟨_, hk, fun cx w p _ _ hp => ?_⟩
    rw [hp.c_eq]
    exact ⟨_, fun _ => by simp [Builtin.len_, run_underlying (slT_eq ht), goInt], .v (.c _)⟩
  · obtain ⟨ht, hk⟩ := h
    refine ⟨_, hk, fun cx w p _ _ hp => ?_⟩
    cases hp with
    | v hp =>
      cases hp with
      | gv _ _ _ => exact ⟨_, fun _ => by simp [Builtin.len_, run_underlying (slT_eq ht), goInt], .v (.c _)⟩
  · exact h.elim
def qNil (k : V → Prop) : V → Prop
  | .lp d off => k (.lp d off)
  | .ip es i off => k (.ip es i off)
  | .gp g i off => k (.gp g i off)
  | .c (.pointer (some a)) => k (.c (.pointer (some a)))
  | .fn (.func f) x y => k (.fn (.func f) x y)
  | _ => False
theorem qNil_sound {P : Program} {s : St} {σ : Hp} {k : V → Prop} {u : V} {o : Oper} {x : Operand} (ho : o.op = .nilCheck x) (h : qNil k u) :
    ∃ z, k z ∧ ∀ cx w (ρ : Operand → Value), HR cx σ w → LR cx σ s.l w → TR w cx u (ρ x) → ∃ y, (∀ w' : World, (execOp ρ o).run P w' = .ok (.value y) w') ∧ TR w cx z y := by
  unfold qNil at h
  split at h
  · refine ⟨_, h, fun cx w ρ _ _ hp => ?_⟩
    generalize hq : ρ x = q at hp
    cases hp with
    | v hp => cases hp
    | lp d off => exact ⟨_, fun _ => by simp [execOp, ho, hq], .lp _ _⟩
  · refine ⟨_, h, fun cx w ρ _ _ hp => ?_⟩
    generalize hq : ρ x = q at hp
    cases hp with
    | v hp =>
      cases hp with
      | ip f hI hi hlen hc hr h1 => exact ⟨_, fun _ => by simp only [execOp, ho, hq]; rfl, .v (.ip f hI hi hlen hc hr h1)⟩
  · refine ⟨_, h, fun cx w ρ _ _ hp => ?_⟩
    generalize hq : ρ x = q at hp
    cases hp with
    | v hp =>
      cases hp with
      | gp hk hg => exact ⟨_, fun _ => by simp only [execOp, ho, hq]; rfl, .v (.gp hk hg)⟩
  · refine ⟨_, h, fun cx w ρ _ _ hp => ?_⟩
    have hq := hp.c_eq
    exact ⟨_, fun _ => by simp only [execOp, ho, hq]; rfl, .v (.c _)⟩
  · refine ⟨_, h, fun cx w ρ _ _ hp => ?_⟩
    generalize hq : ρ x = q at hp
    cases hp with
    | v hp =>
      cases hp with
      | fn a b c d => exact ⟨_, fun _ => by simp only [execOp, ho, hq]; rfl, .v (.fn a b c d)⟩
  · exact h.elim
def cellsV : V → Option (List V)
  | .agg vs => some vs
  | .c (.agg _) => none
  | .c (.tuple _) => none
  | .lp _ _ => none
  | .junk => none
  | .tup _ => none
  | v => some [v]
theorem cellsV_TR {w : World} {cx : Cx} {v : V} {vs : List V} {x : Value} (h : cellsV v = some vs) (hx : TR w cx v x) : VRs w cx vs x.cells.toList := by
  cases hx with
  | lp => simp [cellsV] at h
  | junk => simp [cellsV] at h
  | v hv =>
    cases hv with
    | c => cases x <;> simp [cellsV] at h <;> (subst h; exact VRs.cons rfl (.c _) .nil)
    | agg h1 hn hh => simp [cellsV] at h; subst h; exact ⟨hn, h1, hh⟩
    | tup hn hh => simp [cellsV] at h
    | nils => simp [cellsV] at h; subst h; exact VRs.cons rfl .nils .nil
    | nile a => simp [cellsV] at h; subst h; exact VRs.cons rfl (.nile a) .nil
    | sl f h1 h2 h3 h4 h5 h6 => simp [cellsV] at h; subst h; exact VRs.cons rfl (.sl f h1 h2 h3 h4 h5 h6) .nil
    | ip f h1 h2 h3 h4 h5 h6 => simp [cellsV] at h; subst h; exact VRs.cons rfl (.ip f h1 h2 h3 h4 h5 h6) .nil
    | @gl k hk hs =>
      simp [cellsV] at h; subst h
      have e : (cx.M k).cells.toList = [cx.M k] := by cases hM : cx.M k <;> simp [hM, Value.oneCell', Value.cells] at hs ⊢
      rw [e]
      exact VRs.cons hs (.gl hk hs) .nil
    | gp h1 h2 => simp [cellsV] at h; subst h; exact VRs.cons rfl (.gp h1 h2) .nil
    | gv h1 h2 h3 => simp [cellsV] at h; subst h; exact VRs.cons rfl (.gv h1 h2 h3) .nil
    | fn h1 h2 h3 h4 => simp [cellsV] at h; subst h; exact VRs.cons rfl (.fn h1 h2 h3 h4) .nil
def splice (cells : List V) (off : Nat) (vs : List V) : List V := cells.take off ++ vs ++ cells.drop (off + vs.length)
theorem VRs.splice {w : World} {cx : Cx} {cells vs : List V} {cs xs : List Value} {off : Nat} (h : VRs w cx cells cs) (g : VRs w cx vs xs) :
  VRs w cx (Abs.splice cells off vs) (cs.take off ++ xs ++ cs.drop (off + xs.length)) := by
 unfold Abs.splice
 rw [g.1]
 exact ((h.take off).append g).append (h.drop _)
def fillV (place : Nat → Option (Nat × Nat)) (cells : List V) : List (Nat × V) → Option (List V)
  | [] => some cells
  | (i, v) :: rest => match place i, cellsV v with
    | some (off, size), some vs => if vs.length = size ∧ off + vs.length ≤ cells.length then fillV place (splice cells off vs) rest else none
    | _, _ => none
theorem fold_set : ∀ (l : List Value) (k : Nat) (cs : List Value) (off : Nat), off + k + l.length ≤ cs.length →
    (l.zipIdx k).foldl (fun (a : Array Value) (x : Value × Nat) => a.setIfInBounds (off + x.2) x.1) ⟨cs⟩ = ⟨cs.take (off + k) ++ l ++ cs.drop (off + k + l.length)⟩
  | [], k, cs, off, _ => by simp
  | x :: l, k, cs, off, h => by
    have hk : off + k < cs.length := by simp at h; omega
    rw [List.zipIdx_cons, List.foldl_cons]
    have e : (⟨cs⟩ : Array Value).setIfInBounds (off + k) x = ⟨cs.set (off + k) x⟩ := by simp
    rw [e, fold_set l (k + 1) (cs.set (off + k) x) off (by simp at h ⊢; omega)]
    congr 1
    rw [show off + (k + 1) = (off + k) + 1 by omega]
    have h1 : (cs.set (off + k) x).take (off + k + 1) = cs.take (off + k) ++ [x] := by
      rw [List.take_succ_eq_append_getElem (by simpa using hk)]
      simp [List.take_set_of_le]
    have h2 : (cs.set (off + k) x).drop (off + k + 1 + l.length) = cs.drop (off + k + (x :: l).length) := by
      rw [List.drop_set_of_lt (by omega)]
      congr 1
      simp; omega
    rw [h1, h2]
    simp
theorem fill_sound {w : World} {cx : Cx} {place : Nat → Option (Nat × Nat)} : ∀ (parts : List (Nat × V)) (qs : List (Nat × Value)) (cells cells' : List V) (cs : List Value),
    fillV place cells parts = some cells' → VRs w cx cells cs → parts.length = qs.length → (∀ (i : Nat) (p : Nat × V) (q : Nat × Value), parts[i]? = some p → qs[i]? = some q → p.1 = q.1 ∧ TR w cx p.2 q.2) →
    ∃ cs', Instr.fill place ⟨cs⟩ qs = some ⟨cs'⟩ ∧ VRs w cx cells' cs'
  | [], qs, cells, cells', cs, h, hv, hl, hp => by
    have : qs = [] := List.eq_nil_of_length_eq_zero (by simpa using hl.symm)
    subst this
    simp only [fillV, Option.some.injEq] at h
    subst h
    exact ⟨cs, rfl, hv⟩
  | (i, v) :: parts, [], cells, cells', cs, h, hv, hl, hp => by simp at hl
  | (i, v) :: parts, (j, x) :: qs, cells, cells', cs, h, hv, hl, hp => by
    obtain ⟨rfl, hx⟩ := hp 0 (i, v) (j, x) rfl rfl
    simp only [fillV] at h
    split at h
    · rename_i off size vs hpl hvs
      split at h
      · rename_i hc
        obtain ⟨hsz, hoff⟩ := hc
        have hcv := cellsV_TR hvs hx
        have hlen : x.cells.size = vs.length := by rw [← Array.length_toList]; exact hcv.1.symm
        obtain ⟨cs', h1, h2⟩ := fill_sound parts qs _ cells' _ h (hv.splice (off := off) hcv) (by simpa using hl) (fun k p q hp' hq' => hp (k + 1) p q (by simpa using hp') (by simpa using hq'))
        refine ⟨cs', ?_, h2⟩
        simp only [Instr.fill]
        rw [hpl]
        simp only
        have hc1 : ¬ (x.cells.size ≠ size || off + x.cells.size > (⟨cs⟩ : Array Value).size) = true := by
          have := hv.1
          simp
          omega
        rw [if_neg hc1]
        rw [← Array.foldl_toList, Array.toList_zipIdx, fold_set x.cells.toList 0 cs off (by have := hv.1; simp; omega)]
        simpa using h1
      · cases h
    · cases h
def placeT (P : Program) (t : TypeId) : Option (Nat → Option (Nat × Nat)) :=
  match P.underlying t with
  | some (.array _ e) => (P.info? e).map fun ie => fun i => some (i * ie.size, ie.size)
  | some (.struct fields) => (fields.toList.mapM (fun f => (P.info? f.type).map fun i => (f.offset, i.size))).map fun places => fun i => places.toArray[i]?
  | _ => none
def zeroT (P : Program) (t : TypeId) : Option Value := (P.info? t).bind (·.zero)
def qBuild (P : Program) (t : TypeId) (parts : List (Nat × V)) (k : V → Prop) : Prop :=
  ∃ z zs pl cells, zeroT P t = some z ∧ z.cells.toList.all (·.oneCell') = true ∧ z.cells.toList = zs ∧ placeT P t = some pl ∧ fillV pl (zs.map .c) parts = some cells ∧ k (.agg cells)
theorem VRs.consts {w : World} {cx : Cx} : ∀ {xs : List Value}, xs.all (·.oneCell') = true → VRs w cx (xs.map .c) xs
  | [], _ => .nil
  | x :: xs, h => by
    simp only [List.all_cons, Bool.and_eq_true] at h
    exact VRs.cons h.1 (.c x) (VRs.consts h.2)
theorem qBuild_sound {P : Program} {t : TypeId} {parts : List (Nat × V)} {k : V → Prop} (h : qBuild P t parts k) :
    ∃ z, k z ∧ ∀ cx w (qs : Array (Nat × Value)), parts.length = qs.size → (∀ (i : Nat) (p : Nat × V) (q : Nat × Value), parts[i]? = some p → qs[i]? = some q → p.1 = q.1 ∧ TR w cx p.2 q.2) →
      ∃ y, (∀ w' : World, (Instr.build t qs).run P w' = .ok y w') ∧ TR w cx z y := by
  obtain ⟨z, zs, pl, cells, hz, hone, hzs, hpl, hf, hk⟩ := h
  subst hzs
  refine ⟨_, hk, fun cx w qs hl hp => ?_⟩
  obtain ⟨cs', h1, h2⟩ := fill_sound (w := w) (cx := cx) parts qs.toList _ cells z.cells.toList hf (VRs.consts hone) (by simpa using hl) (fun i p q hp' hq' => hp i p q hp' (by simpa using hq'))
  refine ⟨.agg ⟨cs'⟩, fun w' => ?_, .v h2.agg⟩
  apply run_build
  unfold zeroT at hz
  unfold placeT at hpl
  unfold Program.built
  cases hi : P.info? t with
  | none => simp [hi] at hz
  | some it =>
    simp only [hi, Option.bind_some] at hz
    split at hpl
    · rename_i e hu
      cases hie : P.info? e with
      | none => simp [hie] at hpl
      | some ie =>
        simp only [hie, Option.map_some, Option.some.injEq] at hpl
        subst hpl
        simpa [hu, hz, hie] using h1
    · rename_i fields hu
      cases hm : fields.toList.mapM (fun f => (P.info? f.type).map fun i => (f.offset, i.size)) with
      | none => simp [hm] at hpl
      | some places =>
        simp only [hm, Option.map_some, Option.some.injEq] at hpl
        subst hpl
        simpa [hu, hz, hm] using h1
    · cases hpl
end Go.Abs
namespace Go.Abs
open Go
theorem TR.keep {w w' : World} {cx cx' : Cx} {v : V} {x : Value} (h : TR w cx v x) (hw : ∀ g, cx.I g → w'.heap[g]? = w.heap[g]?) (hI : cx.le cx') (hL : cx'.L = cx.L) : TR w' cx' v x := by
 cases h with
 | v h => exact .v (h.keep hw hI)
 | lp d off => rw [← hL]; exact .lp d off
 | junk => exact .junk _
section
variable {B : Base} {n : Nat} {cx cx' : Cx} {s : St} {σ σ' : Hp} {a : Act} {w w' : World}
variable [Mode]
theorem SR.foot_apart (h : SR B n cx s σ a w) {g : Nat} (hg : cx.I g) : ¬ foot cx σ s.l g := by
 rintro (hf | ⟨d, cells, hd, rfl⟩)
 ·exact h.heap.apart g hf hg
 ·exact (h.box.apart d cells hd).1 hg
theorem SR.imm (h : SR B n cx s σ a w) {F' : Nat → Prop} (hx : Ext cx (foot cx σ s.l) w cx' F' w') : ∀ g, cx.I g → w'.heap[g]? = w.heap[g]? :=
 fun g hg => hx.block g (h.heap.ilt g hg) (h.foot_apart hg)
theorem SR.next (h : SR B n cx s σ a w) {l' : Nat → Option (List V)} (hx : Ext cx (foot cx σ s.l) w cx' (foot cx' σ' l') w') (hH : HR cx' σ' w') (hB : LR cx' σ' l' w') (hL : cx'.L = cx.L)
  (hg : ∀ k x, σ'.gr k = some x → (∃ y, σ.gr k = some y) ∨ cx.nm ≤ k) (hob : ∀ g x, σ'.obj g = some x → (∃ y, σ.obj g = some y) ∨ w.heap.size ≤ g)
  (h1 : ∀ g, B.still g → w'.heap[g]? = w.heap[g]?) (h2 : ∀ g, B.still g → ¬ σ'.own cx' g) (h3 : ∀ d cells, l' d = some cells → ∃ c, s.l d = some c) :
  SR B n cx' ⟨s.t, l'⟩ σ' a w' :=
 ⟨h.size, h.defers.keep hx, h.nd, fun t => (h.tmp t).keep (h.imm hx) hx.le hL, hH, hB, h.ext.trans hx,
  fun k x hk => (hg k x hk).elim (fun ⟨y, hy⟩ => h.gnew k y hy) (fun h1 => .inr (Nat.le_trans h.ext.le.nm h1)),
  fun g x hk => (hob g x hk).elim (fun ⟨y, hy⟩ => h.onew g y hy) (fun h1 => .inr (Nat.le_trans h.ext.size h1)),
  fun g hs => (h1 g hs).trans (h.stab g hs), fun g hs => ⟨Nat.lt_of_lt_of_le (h.stN g hs).1 hx.size, h2 g hs⟩,
  fun d cells hd hs => by obtain ⟨c, hc⟩ := h3 d cells hd; exact h.stS d c hc (by rw [← hL]; exact hs)⟩
theorem getD_put (a : Act) (d t : Nat) (x : Value) (hd : d < a.tmps.size) : (a.put (some d) x).tmps.getD t undef = if t = d then x else a.tmps.getD t undef := by
 unfold Act.put
 simp only [Array.getD_eq_getD_getElem?, Array.getElem?_setIfInBounds]
 by_cases h : d = t
 ·subst h; simp [hd]
 ·simp [h, Ne.symm h]
theorem SR.put (h : SR B n cx s σ a w) {d : Nat} {v : V} {x : Value} (hd : d < n) (hv : TR w cx v x) : SR B n cx (s.put d v) σ (a.put (some d) x) w :=
 ⟨by simp [Act.put, h.size], h.defers, h.nd, fun t => by
  rw [getD_put a d t x (by rw [h.size]; exact hd)]
  by_cases ht : t = d
  ·simp only [St.put, ht, if_true]; exact hv
  ·simp only [St.put, ht, if_false]; exact h.tmp t, h.heap, h.box, h.ext, h.gnew, h.onew, h.stab, h.stN, h.stS⟩
theorem SR.putO (h : SR B n cx s σ a w) {d : Option Nat} {v : V} {x : Value} (hd : ∀ e, d = some e → e < n) (hv : TR w cx v x) : SR B n cx (s.putO d v) σ (a.put d x) w := by
 cases d with
 | none => exact h
 | some d => exact h.put (hd d rfl) hv
theorem HR.keep (h : HR cx σ w) (hx : cx.le cx') (C : Nat → Prop) (hCo : ∀ g, C g → ¬ σ.own cx g) (hCi : ∀ g, C g → ¬ cx.I g) (hI : ∀ g, cx'.I g → ¬ σ.own cx g) (hI' : ∀ g, cx'.I g → g < w'.heap.size) (hb : ∀ g, g < w.heap.size → ¬ C g → w'.heap[g]? = w.heap[g]?) : HR cx' σ w' := by
 have himm : ∀ g, cx.I g → w'.heap[g]? = w.heap[g]? := fun g hg => hb g (h.ilt g hg) (fun hc => hCi g hc hg)
 have hown : ∀ g, σ.own cx g → w'.heap[g]? = w.heap[g]? := fun g hg => hb g (h.own_lt hg) (fun hc => hCo g hc hg)
 exact {
  obj := fun g cells hc => by
   obtain ⟨o, h1, h2⟩ := h.obj g cells hc
   exact ⟨o, (hown g (.inl ⟨cells, hc⟩)).trans h1, h2.keep himm hx⟩
  gr := fun k T es hk => by
   obtain ⟨h1, h0, h2, xs, h3, h4⟩ := h.gr k T es hk
   refine ⟨Nat.lt_of_lt_of_le h1 hx.nm, by rw [hx.Z k h1]; exact h0, by rw [hx.Z k h1]; exact h2, xs, ?_, h4.keep himm hx⟩
   rw [hx.Z k h1, hx.M k h1]
   refine ⟨h3.1, ?_⟩
   rcases h3.2 with h5 | ⟨g, cap, cur, e1, e2, e3, e4⟩
   ·exact .inl h5
   ·exact .inr ⟨g, cap, cur, e1, e2, (hown g (.inr ⟨k, _, hk, by rw [e1]; rfl⟩)).trans e3, e4⟩
  two := fun k k' x x' g hk hk' h1 h2 => by
   have a1 := (h.gr k x.1 x.2 hk).1
   have a2 := (h.gr k' x'.1 x'.2 hk').1
   rw [hx.M k a1] at h1
   rw [hx.M k' a2] at h2
   exact h.two k k' x x' g hk hk' h1 h2
  mix := fun k x g cells hk hc => by
   have a1 := (h.gr k x.1 x.2 hk).1
   rw [hx.M k a1]
   exact h.mix k x g cells hk hc
  apart := fun g hg hi => by
   refine hI g hi ?_
   rcases hg with ⟨cells, hc⟩ | ⟨k, x, hk, hb'⟩
   ·exact .inl ⟨cells, hc⟩
   ·have a1 := (h.gr k x.1 x.2 hk).1
    exact .inr ⟨k, x, hk, by rw [← hx.M k a1]; exact hb'⟩
  ilt := hI' }
theorem own_keep (h : HR cx σ w) (hx : cx.le cx') {g : Nat} (hg : σ.own cx' g) : σ.own cx g := by
 rcases hg with ⟨cells, hc⟩ | ⟨k, x, hk, hb'⟩
 ·exact .inl ⟨cells, hc⟩
 ·have a1 := (h.gr k x.1 x.2 hk).1
  exact .inr ⟨k, x, hk, by rw [← hx.M k a1]; exact hb'⟩
theorem SR.heapstep (h : SR B n cx s σ a w) (hx : cx.le cx') (hL : cx'.L = cx.L) (hI : ∀ g, cx'.I g → cx.I g ∨ σ.own cx g ∨ w.heap.size ≤ g) (ho' : ∀ g, σ'.own cx' g → σ.own cx g ∨ w.heap.size ≤ g)
  (hos : w'.os = w.os) (ht : w'.tape = w.tape) (ho : w'.output = w.output ∧ (Mode.dm → w.drawn ≤ w'.drawn)) (hs : w.heap.size ≤ w'.heap.size) (hb : ∀ g, g < w.heap.size → ¬ σ.own cx g → w'.heap[g]? = w.heap[g]?) (hH : HR cx' σ' w')
  (hg : ∀ k x, σ'.gr k = some x → (∃ y, σ.gr k = some y) ∨ cx.nm ≤ k) (hob : ∀ g x, σ'.obj g = some x → (∃ y, σ.obj g = some y) ∨ w.heap.size ≤ g) :
  SR B n cx' s σ' a w' := by
 refine h.next (l' := s.l) ⟨hos, ht, ho, hs, fun g hg hf => hb g hg (fun h1 => hf (.inl h1)), hx, fun g hg => ?_, ?_⟩ hH ⟨fun d cells hd => ?_, fun d cells hd => ?_, fun d e c c' hd he => by rw [hL]; exact h.box.inj d e c c' hd he⟩ hL hg hob
  (fun g hs' => hb g (h.stN g hs').1 (h.stN g hs').2) (fun g hs' ho => (ho' g ho).elim (h.stN g hs').2 (fun h1 => by have := (h.stN g hs').1; omega)) (fun _ cells hd => ⟨cells, hd⟩)
 ·rcases hI g hg with h1 | h1 | h1
  ·exact .inl h1
  ·exact .inr (.inl (.inl h1))
  ·exact .inr (.inr h1)
 ·rintro g (hg | ⟨d, cells, hd, rfl⟩)
  ·exact (ho' g hg).imp .inl id
  ·rw [hL]; exact .inl (.inr ⟨d, cells, hd, rfl⟩)
 ·obtain ⟨T, cs, h1, h2⟩ := h.box.box d cells hd
  rw [hL]
  exact ⟨T, cs, (hb _ (lt_of_block h1) (h.box.apart d cells hd).2).trans h1, h2.keep (fun g hg => hb g (h.heap.ilt g hg) (fun h3 => h.heap.apart g h3 hg)) hx⟩
 ·rw [hL]
  obtain ⟨T, cs, h1, h2⟩ := h.box.box d cells hd
  have hlt := lt_of_block h1
  have h3 := h.box.apart d cells hd
  refine ⟨fun hi => ?_, fun ho => ?_⟩
  ·rcases hI _ hi with h4 | h4 | h4
   ·exact h3.1 h4
   ·exact h3.2 h4
   ·omega
  ·rcases ho' _ ho with h4 | h4
   ·exact h3.2 h4
   ·omega
theorem HR.new (h : HR cx σ w) (hx : cx.le cx') (hI : ∀ g, cx'.I g → cx.I g ∨ (w.heap.size ≤ g ∧ g < w'.heap.size)) (hs : w.heap.size ≤ w'.heap.size) (hb : ∀ g, g < w.heap.size → w'.heap[g]? = w.heap[g]?) : HR cx' σ w' :=
 h.keep hx (fun _ => False) (fun _ h => h.elim) (fun _ h => h.elim) (fun g hg ho => by
  rcases hI g hg with h1 | h1
  ·exact h.apart g ho h1
  ·have := h.own_lt ho; omega) (fun g hg => by
  rcases hI g hg with h1 | h1
  ·exact Nat.lt_of_lt_of_le (h.ilt g h1) hs
  ·exact h1.2) (fun g hg _ => hb g hg)
theorem SR.grow (h : SR B n cx s σ a w) (hx : cx.le cx') (hL : cx'.L = cx.L) (hI : ∀ g, cx'.I g → cx.I g ∨ (w.heap.size ≤ g ∧ g < w'.heap.size)) (hos : w'.os = w.os) (ht : w'.tape = w.tape) (ho : w'.output = w.output ∧ (Mode.dm → w.drawn ≤ w'.drawn))
  (hs : w.heap.size ≤ w'.heap.size) (hb : ∀ g, g < w.heap.size → w'.heap[g]? = w.heap[g]?) : SR B n cx' s σ a w' :=
 h.heapstep hx hL (fun g hg => (hI g hg).imp id (fun h1 => .inr h1.1)) (fun _ hg => .inl (own_keep h.heap hx hg)) hos ht ho hs (fun g hg _ => hb g hg) (h.heap.new hx hI hs hb) (fun _ x hk => .inl ⟨x, hk⟩) (fun _ x hk => .inl ⟨x, hk⟩)
theorem SR.drew (h : SR B n cx s σ a w) : SR B n cx s σ a w.drew :=
 h.grow (.refl _) rfl (fun _ h => .inl h) rfl rfl ⟨rfl, fun _ => Nat.le_succ _⟩ (Nat.le_refl _) (fun _ _ => rfl)
theorem SR.box_new (h : SR B n cx s σ a w) {d T : Nat} {cells : List V} {cs : List Value} (hd : d < n) (hc : VRs w cx cells cs) :
    SR B n { cx with L := fun x => if x = d then w.heap.size else cx.L x } (s.new d cells) σ (a.put (some d) (.pointer (some ⟨w.heap.size, 0, none⟩))) (w.alloc (.cells ⟨cs⟩ T)) := by
  have hb : ∀ g, g < w.heap.size → (w.alloc (.cells ⟨cs⟩ T)).heap[g]? = w.heap[g]? := fun g hg => heap_alloc_old w _ hg
  have hle : cx.le { cx with L := fun x => if x = d then w.heap.size else cx.L x } := Cx.le.L cx _
  have himm : ∀ g, cx.I g → (w.alloc (.cells ⟨cs⟩ T)).heap[g]? = w.heap[g]? := fun g hg => hb g (h.heap.ilt g hg)
  have hH : HR { cx with L := fun x => if x = d then w.heap.size else cx.L x } σ (w.alloc (.cells ⟨cs⟩ T)) := h.heap.new hle (fun _ h => .inl h) (by simp) hb
  have hfn : ∀ g, foot { cx with L := fun x => if x = d then w.heap.size else cx.L x } σ (s.new d cells).l g → foot cx σ s.l g ∨ w.heap.size ≤ g := fun g hg => by
    rcases hg with hg | ⟨e, ce, he, rfl⟩
    · exact .inl (.inl (own_keep h.heap hle hg))
    · by_cases hed : e = d
      · simp only [hed, if_true]; exact .inr (Nat.le_refl _)
      · simp only [hed, if_false]
        simp only [St.new, hed, if_false] at he
        exact .inl (.inr ⟨e, ce, he, rfl⟩)
  refine ⟨by simp [Act.put, h.size], h.defers.keep ⟨rfl, rfl, ⟨rfl, fun _ => Nat.le_refl _⟩, by simp, fun g hg _ => hb g hg, hle, fun _ h => .inl h, hfn⟩, h.nd, fun t => ?_, hH, ⟨fun e ce he => ?_, fun e ce he => ?_, fun e e' ce ce' he he' hL => ?_⟩, h.ext.trans ⟨rfl, rfl, ⟨rfl, fun _ => Nat.le_refl _⟩, by simp, fun g hg _ => hb g hg, hle, fun _ h => .inl h, hfn⟩, h.gnew, h.onew,
    fun g hs => (hb g (h.stN g hs).1).trans (h.stab g hs), fun g hs => ⟨by have := (h.stN g hs).1; simp; omega, fun ho => (h.stN g hs).2 (own_keep h.heap hle ho)⟩, fun e ce he hs => ?_⟩
  · rw [getD_put a d t _ (by rw [h.size]; exact hd)]
    by_cases ht : t = d
    · simp only [St.new, ht, if_true]
      have := TR.lp (w := w.alloc (.cells ⟨cs⟩ T)) (cx := { cx with L := fun x => if x = d then w.heap.size else cx.L x }) d 0
      simpa using this
    · simp only [St.new, ht, if_false]
      have h1 := h.tmp t
      generalize s.t t = v at h1
      generalize a.tmps.getD t undef = x at h1
      cases h1 with
      | v h1 =>
        have : kill d v = v := by cases h1 <;> rfl
        rw [this]; exact .v (h1.keep himm hle)
      | lp e off =>
        unfold kill
        by_cases he : e = d
        · simp only [he, if_true]; exact .junk _
        · simp only [he, if_false]
          have := TR.lp (w := w.alloc (.cells ⟨cs⟩ T)) (cx := { cx with L := fun x => if x = d then w.heap.size else cx.L x }) e off
          simpa [he] using this
      | junk => exact .junk _
  · by_cases hed : e = d
    · simp only [St.new, hed, if_true, Option.some.injEq] at he
      subst he
      simp only [hed, if_true]
      exact ⟨T, cs, heap_alloc_new w _, hc.keep himm hle⟩
    · simp only [St.new, hed, if_false] at he
      simp only [hed, if_false]
      obtain ⟨T', cs', h1, h2⟩ := h.box.box e ce he
      exact ⟨T', cs', (hb _ (lt_of_block h1)).trans h1, h2.keep himm hle⟩
  · by_cases hed : e = d
    · simp only [hed, if_true]
      exact ⟨fun hi => by have := h.heap.ilt _ hi; omega, fun ho => by have := h.heap.own_lt (own_keep h.heap hle ho); omega⟩
    · simp only [St.new, hed, if_false] at he
      simp only [hed, if_false]
      exact ⟨(h.box.apart e ce he).1, fun ho => (h.box.apart e ce he).2 (own_keep h.heap hle ho)⟩
  · have lt : ∀ e ce, e ≠ d → (s.new d cells).l e = some ce → cx.L e < w.heap.size := fun e ce hne he => by
      simp only [St.new, hne, if_false] at he
      obtain ⟨T', cs', h1, _⟩ := h.box.box e ce he
      exact lt_of_block h1
    by_cases h1 : e = d
    · by_cases h2 : e' = d
      · rw [h1, h2]
      · simp only [h1, h2, if_true, if_false] at hL
        have := lt e' ce' h2 he'; omega
    · by_cases h2 : e' = d
      · simp only [h1, h2, if_true, if_false] at hL
        have := lt e ce h1 he; omega
      · simp only [h1, h2, if_false] at hL
        simp only [St.new, h1, h2, if_false] at he he'
        exact h.box.inj e e' ce ce' he he' hL
  · by_cases hed : e = d
    · simp only [hed, if_true] at hs
      have := (h.stN _ hs).1; omega
    · simp only [hed, if_false] at hs
      simp only [St.new, hed, if_false] at he
      exact h.stS e ce he hs
theorem SR.box_set (h : SR B n cx s σ a w) {d T : Nat} {cells cells' : List V} {cs cs' : List Value} (hsd : B.sd d = false) (hd : s.l d = some cells) (hg : w.heap[cx.L d]? = some (.cells ⟨cs⟩ T (0, 0))) (hc : VRs w cx cells' cs') :
  SR B n cx (s.setl d cells') σ a (w.setRow (cx.L d) ⟨cs'⟩) := by
 have hap := h.box.apart d cells hd
 have hb : ∀ g, g < w.heap.size → g ≠ cx.L d → (w.setRow (cx.L d) ⟨cs'⟩).heap[g]? = w.heap[g]? := fun g _ hne => setRow_other w _ g _ hne
 have himm : ∀ g, cx.I g → (w.setRow (cx.L d) ⟨cs'⟩).heap[g]? = w.heap[g]? := fun g hg' => hb g (h.heap.ilt g hg') (fun e => hap.1 (e ▸ hg'))
 refine h.next (l' := (s.setl d cells').l) ⟨rfl, rfl, ⟨rfl, fun _ => Nat.le_refl _⟩, by simp, fun g hlt hf => hb g hlt (fun e => hf (.inr ⟨d, cells, hd, e.symm⟩)), .refl _, fun _ h => .inl h, ?_⟩
  (h.heap.keep (.refl _) (fun g => g = cx.L d) (fun g e => e ▸ hap.2) (fun g e => e ▸ hap.1) (fun g hi ho => h.heap.apart g ho hi) (fun _ hi => by simpa using h.heap.ilt _ hi) hb)
  ⟨fun e ce he => ?_, fun e ce he => ?_, fun e e' ce ce' he he' hL => ?_⟩ rfl (fun _ x hk => .inl ⟨x, hk⟩) (fun _ x hk => .inl ⟨x, hk⟩)
  (fun g hs => hb g (h.stN g hs).1 (fun e => by have := h.stS d cells hd (e ▸ hs); rw [hsd] at this; cases this)) (fun g hs => (h.stN g hs).2) (fun e ce he => ?_)
 ·rintro g (hg' | ⟨e, ce, he, rfl⟩)
  ·exact .inl (.inl hg')
  ·by_cases hed : e = d
   ·subst hed; exact .inl (.inr ⟨e, cells, hd, rfl⟩)
   ·simp only [St.setl, hed, if_false] at he
    exact .inl (.inr ⟨e, ce, he, rfl⟩)
 ·by_cases hed : e = d
  ·subst hed
   simp only [St.setl, if_true, Option.some.injEq] at he
   subst he
   exact ⟨T, cs', setRow_heap w _ _ _ T _ hg, hc.keep himm (.refl _)⟩
  ·simp only [St.setl, hed, if_false] at he
   obtain ⟨T', ce', h1, h2⟩ := h.box.box e ce he
   refine ⟨T', ce', (hb _ (lt_of_block h1) (fun h3 => hed (h.box.inj e d ce cells he hd h3))).trans h1, h2.keep himm (.refl _)⟩
 ·by_cases hed : e = d
  ·subst hed; exact hap
  ·simp only [St.setl, hed, if_false] at he
   exact h.box.apart e ce he
 ·have old : ∀ e ce, (s.setl d cells').l e = some ce → ∃ c, s.l e = some c := fun e ce he => by
   by_cases hed : e = d
   ·subst hed; exact ⟨cells, hd⟩
   ·simp only [St.setl, hed, if_false] at he; exact ⟨ce, he⟩
  obtain ⟨c1, h1⟩ := old e ce he
  obtain ⟨c2, h2⟩ := old e' ce' he'
  exact h.box.inj e e' c1 c2 h1 h2 hL
 ·by_cases hed : e = d
  ·subst hed; exact ⟨cells, hd⟩
  ·simp only [St.setl, hed, if_false] at he; exact ⟨ce, he⟩
end
end Go.Abs
namespace Go.Abs
open Go
def Hp.setGr (σ : Hp) (k : Nat) (x : Option ((TypeId × Nat) × List (List V))) : Hp := ⟨σ.obj, fun j => if j = k then x else σ.gr j⟩
def Hp.setObj (σ : Hp) (g : Nat) (x : Option (List V)) : Hp := ⟨fun j => if j = g then x else σ.obj j, σ.gr⟩
def Cx.addG (cx : Cx) (v : Value) (sz : Nat) : Cx := { cx with M := fun k => if k = cx.nm then v else cx.M k, Z := fun k => if k = cx.nm then sz else cx.Z k, nm := cx.nm + 1 }
theorem Cx.le_addG (cx : Cx) (v : Value) (sz : Nat) : cx.le (cx.addG v sz) :=
 ⟨fun _ h => h, Nat.le_succ _, fun k hk => by simp [Cx.addG, Nat.ne_of_lt hk], fun k hk => by simp [Cx.addG, Nat.ne_of_lt hk]⟩
@[simp] theorem Cx.addG_M (cx : Cx) (v : Value) (sz : Nat) : (cx.addG v sz).M cx.nm = v := by simp [Cx.addG]
@[simp] theorem Cx.addG_Z (cx : Cx) (v : Value) (sz : Nat) : (cx.addG v sz).Z cx.nm = sz := by simp [Cx.addG]
section
variable {P : Program} {cx cx' : Cx} {σ σ' : Hp} {w w' : World}
variable [Mode]
theorem HR.sub (h : HR cx σ w) (ho : ∀ g x, σ'.obj g = some x → σ.obj g = some x) (hg : ∀ k x, σ'.gr k = some x → σ.gr k = some x) : HR cx σ' w where
 obj g cells hc := h.obj g cells (ho g cells hc)
 gr k T es hk := h.gr k T es (hg k _ hk)
 two k k' x x' g hk hk' := h.two k k' x x' g (hg k x hk) (hg k' x' hk')
 mix k x g cells hk hc := h.mix k x g cells (hg k x hk) (ho g cells hc)
 apart g hown := h.apart g (by
  rcases hown with ⟨c, hc⟩ | ⟨k, x, hk, hb⟩
  ·exact .inl ⟨c, ho g c hc⟩
  ·exact .inr ⟨k, x, hg k x hk, hb⟩)
 ilt := h.ilt
theorem own_sub (ho : ∀ g x, σ'.obj g = some x → σ.obj g = some x) (hg : ∀ k x, σ'.gr k = some x → σ.gr k = some x) {g : Nat} (h : σ'.own cx g) : σ.own cx g := by
 rcases h with ⟨c, hc⟩ | ⟨k, x, hk, hb⟩
 ·exact .inl ⟨c, ho g c hc⟩
 ·exact .inr ⟨k, x, hg k x hk, hb⟩
theorem HR.no_nm (h : HR cx σ w) : σ.gr cx.nm = none := by
 cases hk : σ.gr cx.nm with
 | none => rfl
 | some x => have := (h.gr cx.nm x.1 x.2 hk).1; omega
theorem HR.addGr (h : HR cx σ w) {v : Value} {T sz : Nat} {es : List (List V)} {xs : List Value} (hown : w.ownsRow 0 T sz v es.length xs) (hx : VRs w cx es.flatten xs)
  (hel : ∀ e : List V, e ∈ es → e.length = sz) (hnew : ∀ g, v.ownBlock = some g → ¬ σ.own cx g ∧ ¬ cx.I g) : HR (cx.addG v sz) (σ.setGr cx.nm (some ((T, sz), es))) w := by
 have h1 : HR (cx.addG v sz) σ w := h.keep (cx.le_addG v sz) (fun _ => False) (fun _ h => h.elim) (fun _ h => h.elim) (fun g hg ho => h.apart g ho hg) (fun g hg => h.ilt g hg) (fun _ _ _ => rfl)
 have old : ∀ k x, σ.gr k = some x → k < cx.nm := fun k x hk => (h.gr k x.1 x.2 hk).1
 have oldM : ∀ k x, σ.gr k = some x → (cx.addG v sz).M k = cx.M k := fun k x hk => (cx.le_addG v sz).M k (old k x hk)
 have cs : ∀ k x, (σ.setGr cx.nm (some ((T, sz), es))).gr k = some x → (k = cx.nm ∧ x = ((T, sz), es)) ∨ (k ≠ cx.nm ∧ σ.gr k = some x) := fun k x hk => by
  by_cases hkn : k = cx.nm
  ·simp only [Hp.setGr, hkn, if_true, Option.some.injEq] at hk; exact .inl ⟨hkn, hk.symm⟩
  ·simp only [Hp.setGr, hkn, if_false] at hk; exact .inr ⟨hkn, hk⟩
 have own' : ∀ g, (σ.setGr cx.nm (some ((T, sz), es))).own (cx.addG v sz) g → σ.own cx g ∨ v.ownBlock = some g := by
  rintro g (⟨c, hc⟩ | ⟨k, x, hk, hb⟩)
  ·exact .inl (.inl ⟨c, hc⟩)
  ·rcases cs k x hk with ⟨rfl, _⟩ | ⟨_, hk'⟩
   ·rw [Cx.addG_M] at hb; exact .inr hb
   ·rw [oldM k x hk'] at hb; exact .inl (.inr ⟨k, x, hk', hb⟩)
 exact {
  obj := h1.obj
  gr := fun k T' es' hk => by
   rcases cs k _ hk with ⟨rfl, he⟩ | ⟨_, hk'⟩
   ·injection he with e1 e2
    subst e1; subst e2
    exact ⟨Nat.lt_succ_self _, by rw [Cx.addG_Z], by rw [Cx.addG_Z]; exact hel, xs, by rw [Cx.addG_Z, Cx.addG_M]; exact hown, hx.keep (fun _ _ => rfl) (cx.le_addG v sz)⟩
   ·exact h1.gr k T' es' hk'
  two := fun k k' x x' g hk hk' hb hb' => by
   rcases cs k x hk with ⟨rfl, _⟩ | ⟨_, h2⟩
   ·rcases cs k' x' hk' with ⟨rfl, _⟩ | ⟨_, h3⟩
    ·rfl
    ·rw [Cx.addG_M] at hb
     rw [oldM k' x' h3] at hb'
     exact absurd (.inr ⟨k', x', h3, hb'⟩) (hnew g hb).1
   ·rcases cs k' x' hk' with ⟨rfl, _⟩ | ⟨_, h3⟩
    ·rw [Cx.addG_M] at hb'
     rw [oldM k x h2] at hb
     exact absurd (.inr ⟨k, x, h2, hb⟩) (hnew g hb').1
    ·exact h1.two k k' x x' g h2 h3 hb hb'
  mix := fun k x g cells hk hc => by
   rcases cs k x hk with ⟨rfl, _⟩ | ⟨_, h2⟩
   ·rw [Cx.addG_M]
    intro hb
    exact (hnew g hb).1 (.inl ⟨cells, hc⟩)
   ·exact h1.mix k x g cells h2 hc
  apart := fun g hg hi => by
   rcases own' g hg with h2 | h2
   ·exact h.apart g h2 hi
   ·exact (hnew g h2).2 hi
  ilt := h.ilt }
theorem own_addGr (h : HR cx σ w) {v : Value} {T sz : Nat} {es : List (List V)} {g : Nat} (hg : (σ.setGr cx.nm (some ((T, sz), es))).own (cx.addG v sz) g) : σ.own cx g ∨ v.ownBlock = some g := by
 rcases hg with ⟨c, hc⟩ | ⟨k, x, hk, hb⟩
 ·exact .inl (.inl ⟨c, hc⟩)
 ·by_cases hkn : k = cx.nm
  ·subst hkn; rw [Cx.addG_M] at hb; exact .inr hb
  ·simp only [Hp.setGr, hkn, if_false] at hk
   rw [(cx.le_addG v sz).M k (h.gr k x.1 x.2 hk).1] at hb
   exact .inl (.inr ⟨k, x, hk, hb⟩)
theorem HR.addObj (h : HR cx σ w) {g : Nat} {cells : List V} {o : Obj} (hg : w.heap[g]? = some o) (hc : OR w cx cells o) (hnew : ¬ σ.own cx g ∧ ¬ cx.I g) : HR cx (σ.setObj g (some cells)) w := by
 have own' : ∀ g', (σ.setObj g (some cells)).own cx g' → σ.own cx g' ∨ g' = g := by
  rintro g' (⟨c, hc⟩ | ⟨k, x, hk, hb⟩)
  ·by_cases e : g' = g
   ·exact .inr e
   ·simp only [Hp.setObj, e, if_false] at hc; exact .inl (.inl ⟨c, hc⟩)
  ·exact .inl (.inr ⟨k, x, hk, hb⟩)
 exact {
  obj := fun g' c hc' => by
   by_cases e : g' = g
   ·simp only [Hp.setObj, e, if_true, Option.some.injEq] at hc'; subst hc'; rw [e]; exact ⟨o, hg, hc⟩
   ·simp only [Hp.setObj, e, if_false] at hc'; exact h.obj g' c hc'
  gr := h.gr
  two := h.two
  mix := fun k x g' c hk hc' => by
   by_cases e : g' = g
   ·rw [e]; intro hb; exact hnew.1 (.inr ⟨k, x, hk, hb⟩)
   ·simp only [Hp.setObj, e, if_false] at hc'; exact h.mix k x g' c hk hc'
  apart := fun g' hg' hi => by
   rcases own' g' hg' with h2 | rfl
   ·exact h.apart g' h2 hi
   ·exact hnew.2 hi
  ilt := h.ilt }
theorem VR.sl_row {es : List (List V)} {sz b o : Nat} {f : Nat → Nat → Value}
    (hlen : ∀ (i : Nat) (e : List V), es[i]? = some e → e.length = sz)
    (hc : ∀ i j, i < es.length → j < sz → w.cell? ⟨b, o + i * sz + j, none⟩ = some (f i j))
    (hr : ∀ (i : Nat) (e : List V) (j : Nat) (v : V), es[i]? = some e → e[j]? = some v → VR w cx v (f i j))
    (h1 : ∀ i j, i < es.length → j < sz → (f i j).oneCell' = true) :
    ∃ xs : List Value, xs.length = es.length * sz ∧ VRs w cx es.flatten xs ∧ ∀ j x, xs[j]? = some x → w.cell? ⟨b, o + j, none⟩ = some x := by
  induction es generalizing o f with
  | nil => exact ⟨[], by simp, .nil, fun j x h => by simp at h⟩
  | cons e es ih =>
    obtain ⟨xs, hl, hv, hcell⟩ := ih (o := o + sz) (f := fun i j => f (i + 1) j) (fun i e' he => hlen (i + 1) e' (by simpa using he))
      (fun i j hi hj => by have := hc (i + 1) j (by simpa using hi) hj; rw [show o + sz + i * sz + j = o + (i + 1) * sz + j by rw [Nat.succ_mul]; omega]; exact this)
      (fun i e' j v he hv => hr (i + 1) e' j v (by simpa using he) hv) (fun i j hi hj => h1 (i + 1) j (by simpa using hi) hj)
    obtain ⟨ys, hy, hyc⟩ := row_of_elem (es := e :: es) (i := 0) (by simp) h1 hlen hc hr
    have hel : e.length = sz := hlen 0 e rfl
    have hyl : ys.length = sz := by rw [← hy.1]; simpa using hel
    refine ⟨ys ++ xs, by rw [List.length_append, hl, hyl, List.length_cons, Nat.succ_mul, Nat.add_comm], ?_, fun j x hx => ?_⟩
    · rw [List.flatten_cons]; exact VRs.append (by simpa using hy) hv
    · by_cases hj : j < sz
      · rw [List.getElem?_append_left (by omega)] at hx
        have := hyc j x hx
        simpa using this
      · rw [List.getElem?_append_right (by omega), hyl] at hx
        have := hcell _ x hx
        rwa [show o + sz + (j - sz) = o + j by omega] at this
end
end Go.Abs
namespace Go.Abs
open Go
section
variable {P : Program} {B : Base} {n : Nat} {cx cx' : Cx} {s : St} {σ σ' : Hp} {a : Act} {w w' : World}
variable [Mode]
def Cx.addI (cx : Cx) (g : Nat) : Cx := { cx with I := fun x => cx.I x ∨ x = g }
theorem Cx.le_addI (cx : Cx) (g : Nat) : cx.le (cx.addI g) := ⟨fun _ h => .inl h, Nat.le_refl _, fun _ _ => rfl, fun _ _ => rfl⟩
theorem SR.immNew (h : SR B n cx s σ a w) (hs : w'.heap.size = w.heap.size + 1) (hb : ∀ g, g < w.heap.size → w'.heap[g]? = w.heap[g]?) (hos : w'.os = w.os) (ht : w'.tape = w.tape) (ho : w'.output = w.output ∧ (Mode.dm → w.drawn ≤ w'.drawn)) :
  SR B n (cx.addI w.heap.size) s σ a w' :=
 h.grow (cx.le_addI _) rfl (fun g hg => hg.imp id (fun e => by omega)) hos ht ho (by omega) hb
theorem flatten_get {es : List (List V)} {sz i j : Nat} {e : List V} {v : V} (hel : ∀ e : List V, e ∈ es → e.length = sz) (he : es[i]? = some e) (hv : e[j]? = some v) : es.flatten[i * sz + j]? = some v := by
 have hi : i < es.length := (List.getElem?_eq_some_iff.1 he).1
 have hj : j < e.length := (List.getElem?_eq_some_iff.1 hv).1
 have hes : es[i] = e := (List.getElem?_eq_some_iff.1 he).2
 have hsz : e.length = sz := hel e (hes ▸ List.getElem_mem _)
 have h1 := flatten_cut hel hi
 have h2 : es.getD i [] = e := by simp [List.getD, he]
 rw [h2] at h1
 have h3 : ((es.flatten.drop (i * sz)).take sz)[j]? = some v := by rw [h1]; exact hv
 rw [List.getElem?_take, if_pos (by omega), List.getElem?_drop] at h3
 exact h3
theorem VR.sl_of_row {es : List (List V)} {xs : List Value} {sz b o cap : Nat} (hI : cx.I b) (hcap : es.length ≤ cap) (hel : ∀ e : List V, e ∈ es → e.length = sz) (hx : VRs w cx es.flatten xs)
  (hc : ∀ j x, xs[j]? = some x → w.cell? ⟨b, o + j, none⟩ = some x) : VR w cx (.sl es) (.slice (some ⟨b, o, none⟩) es.length cap) := by
 have hlen : ∀ (i : Nat) (e : List V), es[i]? = some e → e.length = sz := fun i e he => hel e (List.mem_of_getElem? he)
 have hfl : es.flatten.length = es.length * sz := by
  clear hx hcap hlen
  induction es with
  | nil => simp
  | cons e es ih => rw [List.flatten_cons, List.length_append, ih (fun e' h' => hel e' (List.mem_cons_of_mem _ h')), hel e List.mem_cons_self, List.length_cons, Nat.succ_mul, Nat.add_comm]
 have hin : ∀ i j, i < es.length → j < sz → i * sz + j < xs.length := fun i j hi hj => by
  rw [← hx.1, hfl]
  calc i * sz + j < i * sz + sz := by omega
   _ = (i + 1) * sz := (Nat.succ_mul i sz).symm
   _ ≤ es.length * sz := Nat.mul_le_mul_right _ hi
 have hgd : ∀ i j, i < es.length → j < sz → xs[i * sz + j]? = some (xs.getD (i * sz + j) undef) := fun i j hi hj => by
  have := hin i j hi hj
  simp [List.getD, this]
 exact .sl (sz := sz) (fun i j => xs.getD (i * sz + j) undef) hI hcap hlen
  (fun i j hi hj => by rw [Nat.add_assoc]; exact hc _ _ (hgd i j hi hj))
  (fun i e j v he hv => by
   have hi : i < es.length := (List.getElem?_eq_some_iff.1 he).1
   have hj : j < sz := by rw [← hlen i e he]; exact (List.getElem?_eq_some_iff.1 hv).1
   exact hx.2.2 _ _ _ (flatten_get hel he hv) (hgd i j hi hj))
  (fun i j hi hj => hx.2.1 _ (List.mem_of_getElem? (hgd i j hi hj)))
structure Left (cx : Cx) (σ : Hp) (w : World) (cx' : Cx) (σ' : Hp) (w' : World) : Prop where
  heap : HR cx' σ' w'
  ext : Ext cx (σ.own cx) w cx' (σ'.own cx') w'
  gnew : ∀ k x, σ'.gr k = some x → (∃ y, σ.gr k = some y) ∨ cx.nm ≤ k
  onew : ∀ g x, σ'.obj g = some x → (∃ y, σ.obj g = some y) ∨ w.heap.size ≤ g
def VAs (w : World) (cx : Cx) (vs : List V) (xs : List Value) : Prop := vs.length = xs.length ∧ ∀ (i : Nat) (v : V) (x : Value), vs[i]? = some v → xs[i]? = some x → VR w cx v x
theorem VAs.keep {vs : List V} {xs : List Value} (h : VAs w cx vs xs) (hw : ∀ g, cx.I g → w'.heap[g]? = w.heap[g]?) (hI : cx.le cx') : VAs w' cx' vs xs :=
 ⟨h.1, fun i v x hv hx => (h.2 i v x hv hx).keep hw hI⟩
theorem VAs.nil : VAs w cx [] [] := ⟨rfl, fun i v x h => by simp at h⟩
theorem VAs.cons {v : V} {x : Value} {vs : List V} {xs : List Value} (h : VR w cx v x) (hs : VAs w cx vs xs) : VAs w cx (v :: vs) (x :: xs) :=
 ⟨by simp [hs.1], fun i v' x' hv hx => by
  cases i with
  | zero => simp at hv hx; subst hv; subst hx; exact h
  | succ i => simp at hv hx; exact hs.2 i v' x' hv hx⟩
theorem VAs.append {vs us : List V} {xs ys : List Value} (h : VAs w cx vs xs) (g : VAs w cx us ys) : VAs w cx (vs ++ us) (xs ++ ys) :=
 ⟨by simp [h.1, g.1], fun i v x hv hx => by
  by_cases hi : i < vs.length
  ·rw [List.getElem?_append_left hi] at hv
   rw [List.getElem?_append_left (h.1 ▸ hi)] at hx
   exact h.2 i v x hv hx
  ·rw [List.getElem?_append_right (by omega)] at hv
   rw [List.getElem?_append_right (by have := h.1; omega), ← h.1] at hx
   exact g.2 _ v x hv hx⟩
def ACalls (P : Program) (f : FuncId) (args : List V) (σ : Hp) (R : V → Hp → Prop) : Prop :=
  (∀ (xs : Array Value) (w : World), (callFunc f xs).run P w = .ok (.enter f xs) w) ∧
  ∀ (cx : Cx) (w : World) (xs : List Value), HR cx σ w → VAs w cx args xs →
    Calls P f ⟨xs⟩ w (fun e w' => ∃ v r cx' σ', e = .returned r ∧ VR w' cx' v r ∧ Left cx σ w cx' σ' w' ∧ R v σ')
theorem ACalls.mono {f : FuncId} {args : List V} {R R' : V → Hp → Prop} (h : ACalls P f args σ R) (hr : ∀ v σ', R v σ' → R' v σ') : ACalls P f args σ R' :=
 ⟨h.1, fun cx w xs hH ha => (h.2 cx w xs hH ha).mono fun _ _ ⟨v, r, cx', σ', h1, h2, h3, h4⟩ => ⟨v, r, cx', σ', h1, h2, h3, hr v σ' h4⟩⟩
theorem ACalls.args {f : FuncId} {args args' : List V} {R : V → Hp → Prop} (h : ACalls P f args' σ R) (ha : ∀ w cx xs, VAs w cx args xs → VAs w cx args' xs) : ACalls P f args σ R :=
 ⟨h.1, fun cx w xs hH hx => h.2 cx w xs hH (ha w cx xs hx)⟩
def Hp.over (σ' σ : Hp) (σ0 : Hp) : Hp := ⟨fun g => match σ'.obj g with | some x => some x | none => (match σ0.obj g with | some _ => none | none => σ.obj g), fun k => match σ'.gr k with | some x => some x | none => (match σ0.gr k with | some _ => none | none => σ.gr k)⟩
theorem HR.toL (h : HR cx σ w) (L : Nat → Nat) : HR { cx with L := L } σ w :=
 h.keep (Cx.le.L cx L) (fun _ => False) (fun _ h => h.elim) (fun _ h => h.elim) (fun g hg ho => h.apart g ho hg) (fun g hg => h.ilt g hg) (fun _ _ _ => rfl)
theorem SR.after (h : SR B n cx s σ a w) (hl : Left cx σ w cx' σ' w') : SR B n { cx' with L := cx.L } s σ' a w' :=
 h.heapstep (hl.ext.le.trans (Cx.le.L cx' _)) rfl (fun g hg => hl.ext.inew g hg) (fun g hg => hl.ext.fnew g hg) hl.ext.os hl.ext.tape hl.ext.output hl.ext.size hl.ext.block (hl.heap.toL _) hl.gnew hl.onew
def PCalls (P : Program) (f : FuncId) (args : List V) (R : V → Prop) : Prop := ACalls P f args Hp.empty (fun v σ' => σ' = Hp.empty ∧ R v)
theorem PCalls.mono {f : FuncId} {args : List V} {R R' : V → Prop} (h : PCalls P f args R) (hr : ∀ v, R v → R' v) : PCalls P f args R' :=
 ACalls.mono h fun v _ h => ⟨h.1, hr v h.2⟩
omit [Mode] in
theorem own_empty {g : Nat} (h : Hp.empty.own cx g) : False := by
 rcases h with ⟨c, hc⟩ | ⟨k, x, hk, _⟩
 ·cases hc
 ·cases hk
theorem PCalls.at {f : FuncId} {args : List V} {R : V → Prop} (h : PCalls P f args R) (σ : Hp) : ACalls P f args σ (fun v σ' => σ' = σ ∧ R v) := by
 refine ⟨h.1, fun cx w xs hH ha => ?_⟩
 refine (h.2 cx w xs (hH.sub (fun _ _ h => by cases h) (fun _ _ h => by cases h)) ha).mono fun e w' ⟨v, r, cx', σ', h1, h2, h3, h4, h5⟩ => ?_
 subst h4
 have hb : ∀ g, g < w.heap.size → w'.heap[g]? = w.heap[g]? := fun g hg => h3.ext.block g hg own_empty
 refine ⟨v, r, cx', σ, h1, h2, ⟨hH.new h3.ext.le (fun g hg => ?_) h3.ext.size hb, ⟨h3.ext.os, h3.ext.tape, h3.ext.output, h3.ext.size, fun g hg _ => hb g hg, h3.ext.le, fun g hg => ?_, fun g hg => .inl (own_keep hH h3.ext.le hg)⟩, fun _ x hk => .inl ⟨x, hk⟩, fun _ x hk => .inl ⟨x, hk⟩⟩, rfl, h5⟩
 ·rcases h3.ext.inew g hg with h6 | h6 | h6
  ·exact .inl h6
  ·exact (own_empty h6).elim
  ·exact .inr ⟨h6, h3.heap.ilt g hg⟩
 ·rcases h3.ext.inew g hg with h6 | h6 | h6
  ·exact .inl h6
  ·exact (own_empty h6).elim
  ·exact .inr (.inr h6)
end
end Go.Abs
namespace Go.Abs
open Go
section
variable {P : Program} {B : Base} {n : Nat} {cx cx' : Cx} {s : St} {σ σ' : Hp} {a : Act} {w w' : World} {K : St → Hp → Prop}
variable [Mode]
theorem SR.tr (h : SR B n cx s σ a w) (x : Operand) : TR w cx (ev s x) (a.eval x) := by
 cases x with
 | tmp t => exact h.tmp t
 | const v => exact .v (VR.const v)
 | global g => exact .v (.c _)
 | func f => exact .v (.fn (xs := []) (ys := []) rfl (fun i v x h => by simp at h) rfl (fun i v x h => by simp at h))
def KC (B : Base) (n : Nat) (K : St → Hp → Prop) (a : Act) (w : World) : Prop := ∃ cx s σ, SR B n cx s σ a w ∧ K s σ
def dOK (n : Nat) : Option Nat → Prop
  | some d => d < n
  | none => True
theorem dOK_spec {d : Option Nat} (h : dOK n d) : ∀ e, d = some e → e < n := fun e he => by subst he; exact h
theorem wp_val {o : Oper} {Q : Exit → Act → World → Prop} (h : SR B n cx s σ a w) (hd : dOK n o.dst) {v : V} (hk : K (s.putO o.dst v) σ) (hr : ∃ x, (execOp a.eval o).run P w = .ok (.value x) w ∧ TR w cx v x) :
  o.wp P a w (KC B n K) Q := by
 obtain ⟨x, hx, hv⟩ := hr
 unfold Oper.wp
 rw [hx]
 exact ⟨cx, _, σ, h.putO (dOK_spec hd) hv, hk⟩
theorem wp_new {o : Oper} {Q : Exit → Act → World → Prop} (hd : dOK n o.dst) {x : Value} {v : V} {s' : St} (hr : (execOp a.eval o).run P w = .ok (.value x) w') (h' : SR B n cx' s' σ' a w') (hv : TR w' cx' v x)
  (hk : K (s'.putO o.dst v) σ') : o.wp P a w (KC B n K) Q := by
 unfold Oper.wp
 rw [hr]
 exact ⟨cx', _, σ', h'.putO (dOK_spec hd) hv, hk⟩
theorem wp_skip' {o : Oper} {Q : Exit → Act → World → Prop} (hd : dOK n o.dst) {s' : St} (hr : (execOp a.eval o).run P w = .ok .skip w') (h' : SR B n cx' s' σ' a w')
  (hk : K (s'.putO o.dst .junk) σ') : o.wp P a w (KC B n K) Q := by
 unfold Oper.wp
 rw [hr]
 exact ⟨cx', _, σ', h'.putO (dOK_spec hd) (.junk _), hk⟩
def oneAll (xs : List Value) : Bool := xs.all (·.oneCell')
def semAlloc (P : Program) (t : TypeId) (hp : Bool) (d : Option Nat) (K : St → Hp → Prop) (s : St) (σ : Hp) : Prop :=
  match d with
  | none => False
  | some d => ∃ z zs, zeroT P t = some z ∧ z.cells.toList = zs ∧ oneAll zs = true ∧
      (match hp with
      | false => K (s.new d (zs.map .c)) σ
      | true => ∀ g, σ.obj g = none → K (s.put d (.c (.pointer (some ⟨g, 0, none⟩)))) (σ.setObj g (some (zs.map .c))))
theorem zeroT_run {t : TypeId} {z : Value} (h : zeroT P t = some z) (w : World) : (zeroValue t).run P w = .ok z w := by
 unfold zeroT at h
 cases hi : P.info? t with
 | none => simp [hi] at h
 | some i => simp [hi] at h; simp [zeroValue, typeInfo, hi, h]
theorem SR.obj_new (h : SR B n cx s σ a w) {T : Nat} {cells : List V} {cs : List Value} (hc : VRs w cx cells cs) :
  SR B n cx s (σ.setObj w.heap.size (some cells)) a (w.alloc (.cells ⟨cs⟩ T)) := by
 have hb : ∀ g, g < w.heap.size → (w.alloc (.cells ⟨cs⟩ T)).heap[g]? = w.heap[g]? := fun g hg => heap_alloc_old w _ hg
 have hH : HR cx σ (w.alloc (.cells ⟨cs⟩ T)) := h.heap.new (.refl _) (fun _ h => .inl h) (by simp) hb
 refine h.heapstep (.refl _) rfl (fun g hg => .inl hg) (fun g hg => ?_) rfl rfl ⟨rfl, fun _ => Nat.le_refl _⟩ (by simp) (fun g hg _ => hb g hg)
  (hH.addObj (heap_alloc_new w _) (OR.cells hc |>.keep (fun g hg => hb g (h.heap.ilt g hg)) (.refl _)) ⟨fun ho => by have := h.heap.own_lt ho; omega, fun hi => by have := h.heap.ilt _ hi; omega⟩)
  (fun _ x hk => .inl ⟨x, hk⟩) (fun g x hk => ?_)
 ·rcases hg with ⟨c, hc'⟩ | ⟨k, x, hk, hb'⟩
  ·by_cases e : g = w.heap.size
   ·exact .inr (by omega)
   ·simp only [Hp.setObj, e, if_false] at hc'; exact .inl (.inl ⟨c, hc'⟩)
  ·exact .inl (.inr ⟨k, x, hk, hb'⟩)
 ·by_cases e : g = w.heap.size
  ·exact .inr (by omega)
  ·simp only [Hp.setObj, e, if_false] at hk; exact .inl ⟨x, hk⟩
theorem semAlloc_sound {o : Oper} {Q : Exit → Act → World → Prop} {t : TypeId} {hp : Bool} (ho : o.op = .alloc t) (hd : dOK n o.dst) (h : SR B n cx s σ a w) (hk : semAlloc P t hp o.dst K s σ) : o.wp P a w (KC B n K) Q := by
  unfold semAlloc at hk
  cases hdst : o.dst with
  | none => simp [hdst] at hk
  | some d =>
    simp only [hdst] at hk
    obtain ⟨z, zs, hz, hzs, hone, hk⟩ := hk
    subst hzs
    have hdn : d < n := dOK_spec hd d hdst
    have hrun : (execOp a.eval o).run P w = .ok (.value (.pointer (some ⟨w.heap.size, 0, none⟩))) (w.alloc (.cells z.cells t)) := by
      simp [execOp, ho, Instr.alloc, zeroT_run hz, newVar, newRow]
    unfold Oper.wp
    rw [hrun]
    show KC B n K (a.put o.dst _) _
    rw [hdst]
    have e : z.cells = ⟨z.cells.toList⟩ := rfl
    cases hp with
    | false =>
      simp only at hk
      rw [e]
      exact ⟨_, _, σ, h.box_new hdn (VRs.consts hone), hk⟩
    | true =>
      simp only at hk
      rw [e]
      have hno : σ.obj w.heap.size = none := by
        cases hc : σ.obj w.heap.size with
        | none => rfl
        | some c => have := h.heap.own_lt (.inl ⟨c, hc⟩); omega
      exact ⟨cx, _, _, (h.obj_new (T := t) (VRs.consts hone)).put hdn (.v (.c _)), hk _ hno⟩
def semBox (v : V) (hp : Bool) (d : Option Nat) (K : St → Hp → Prop) (s : St) (σ : Hp) : Prop :=
  match d, cellsV v with
  | some d, some vs => (match hp with
      | false => K (s.new d vs) σ
      | true => ∀ g, σ.obj g = none → K (s.put d (.c (.pointer (some ⟨g, 0, none⟩)))) (σ.setObj g (some vs)))
  | _, _ => False
theorem semBox_sound {o : Oper} {Q : Exit → Act → World → Prop} {t : TypeId} {x : Operand} {hp : Bool} (ho : o.op = .box t x) (hd : dOK n o.dst) (h : SR B n cx s σ a w) (hk : semBox (ev s x) hp o.dst K s σ) : o.wp P a w (KC B n K) Q := by
  unfold semBox at hk
  cases hdst : o.dst with
  | none => simp [hdst] at hk
  | some d =>
    cases hc : cellsV (ev s x) with
    | none => simp [hdst, hc] at hk
    | some vs =>
      simp only [hdst, hc] at hk
      have hdn : d < n := dOK_spec hd d hdst
      have hv := cellsV_TR hc (h.tr x)
      have hrun : (execOp a.eval o).run P w = .ok (.value (.pointer (some ⟨w.heap.size, 0, none⟩))) (w.alloc (.cells (a.eval x).cells t)) := by
        simp [execOp, ho, Instr.box, newVar, newRow]
      unfold Oper.wp
      rw [hrun]
      show KC B n K (a.put o.dst _) _
      rw [hdst]
      have e : (a.eval x).cells = ⟨(a.eval x).cells.toList⟩ := rfl
      cases hp with
      | false => simp only at hk; rw [e]; exact ⟨_, _, σ, h.box_new hdn hv, hk⟩
      | true =>
        simp only at hk
        rw [e]
        have hno : σ.obj w.heap.size = none := by
          cases hc : σ.obj w.heap.size with
          | none => rfl
          | some c => have := h.heap.own_lt (.inl ⟨c, hc⟩); omega
        exact ⟨cx, _, _, (h.obj_new (T := t) hv).put hdn (.v (.c _)), hk _ hno⟩
def semStore (P : Program) (sd : Nat → Bool) (t : TypeId) (p v : V) (d : Option Nat) (K : St → Hp → Prop) (s : St) (σ : Hp) : Prop :=
  match cellsV v with
  | none => False
  | some vs => szT P t = vs.length ∧ vs.length ≠ 0 ∧
    (match p with
    | .lp b off => match s.l b with
      | some cells => sd b = false ∧ off + vs.length ≤ cells.length ∧ K ((s.setl b (splice cells off vs)).putO d .junk) σ
      | none => False
    | .c (.pointer (some ⟨g, off, none⟩)) => match σ.obj g with
      | some cells => isMap cells = false ∧ off + vs.length ≤ cells.length ∧ K (s.putO d .junk) (σ.setObj g (some (splice cells off vs)))
      | none => False
    | .gp k i off => match σ.gr k with
      | some (T, es) => i < es.length ∧ off + vs.length ≤ (es.getD i []).length ∧ K (s.putO d .junk) (σ.setGr k (some (T, es.set i (splice (es.getD i []) off vs))))
      | none => False
    | _ => False)
theorem run_storeVar_at {t : TypeId} {g o T : Nat} {x : Value} {vs : List V} {cs : List Value} (hsz : szT P t = vs.length) (h0 : vs.length ≠ 0) (hv : VRs w cx vs x.cells.toList)
  (hg : w.heap[g]? = some (.cells ⟨cs⟩ T (0, 0))) (hl : o + vs.length ≤ cs.length) :
  (storeVar t ⟨g, o, none⟩ x).run P w = .ok () (w.setRow g ⟨cs.take o ++ x.cells.toList ++ cs.drop (o + x.cells.toList.length)⟩) := by
 have e : x.cells.size = vs.length := by rw [← Array.length_toList]; exact hv.1.symm
 have hst := run_storeCells_at P g o T x.cells.toList 0 ⟨cs⟩ w hg (by have := hv.1; simp only [List.size_toArray]; omega) hv.2.1
 unfold storeVar
 simp only [Sem.run_bind, run_sizeOf (P := P) (w := w) hsz h0, Result.andThen_ok]
 rw [if_neg (by rw [e]; simp), hst]
 simp
theorem HR.setObj_same (h : HR cx σ w) {g : Nat} {cells cells' : List V} {o : Obj} (hc : σ.obj g = some cells) (hg : w'.heap[g]? = some o) (hv : OR w' cx cells' o)
  (hs : w.heap.size ≤ w'.heap.size) (hb : ∀ g', g' < w.heap.size → g' ≠ g → w'.heap[g']? = w.heap[g']?) : HR cx (σ.setObj g (some cells')) w' := by
 have h0 : HR cx (σ.setObj g none) w := h.sub (fun g' x hx => by
  by_cases e : g' = g
  ·simp [Hp.setObj, e] at hx
  ·simpa [Hp.setObj, e] using hx) (fun k x hx => hx)
 have hno : ¬ (σ.setObj g none).own cx g := by
  rintro (⟨c, hc'⟩ | ⟨k, x, hk, hb'⟩)
  ·simp [Hp.setObj] at hc'
  ·exact h.mix k x g cells hk hc hb'
 have hni : ¬ cx.I g := h.apart g (.inl ⟨cells, hc⟩)
 have h1 : HR cx (σ.setObj g none) w' := h0.keep (.refl _) (fun x => x = g) (fun x e => e ▸ hno) (fun x e => e ▸ hni) (fun x hi ho => h0.apart x ho hi) (fun x hi => Nat.lt_of_lt_of_le (h.ilt x hi) hs) hb
 have h2 := h1.addObj hg hv ⟨hno, hni⟩
 have e : (σ.setObj g none).setObj g (some cells') = σ.setObj g (some cells') := by
  simp only [Hp.setObj, Hp.mk.injEq, and_true]
  funext x
  by_cases e : x = g <;> simp [e]
 rwa [e] at h2
theorem own_setObj {g g' : Nat} {cells' : List V} (h : (σ.setObj g (some cells')).own cx g') : σ.own cx g' ∨ g' = g := by
 rcases h with ⟨c, hc⟩ | ⟨k, x, hk, hb⟩
 ·by_cases e : g' = g
  ·exact .inr e
  ·simp only [Hp.setObj, e, if_false] at hc; exact .inl (.inl ⟨c, hc⟩)
 ·exact .inl (.inr ⟨k, x, hk, hb⟩)
theorem HR.setGr_same (h : HR cx σ w) {k g : Nat} {T : TypeId × Nat} {es es' : List (List V)} {xs' : List Value} (hk : σ.gr k = some (T, es)) (hM : (cx.M k).ownBlock = some g) (hown : w'.ownsRow 0 T.1 (cx.Z k) (cx.M k) es'.length xs')
  (hv : VRs w' cx es'.flatten xs') (hel : ∀ e : List V, e ∈ es' → e.length = cx.Z k) (hs : w.heap.size ≤ w'.heap.size) (hb : ∀ g', g' < w.heap.size → g' ≠ g → w'.heap[g']? = w.heap[g']?) : HR cx (σ.setGr k (some (T, es'))) w' := by
 have hni : ¬ cx.I g := h.apart g (.inr ⟨k, _, hk, hM⟩)
 have himm : ∀ g', cx.I g' → w'.heap[g']? = w.heap[g']? := fun g' hi => hb g' (h.ilt g' hi) (fun e => hni (e ▸ hi))
 have cs : ∀ j x, (σ.setGr k (some (T, es'))).gr j = some x → (j = k ∧ x = (T, es')) ∨ (j ≠ k ∧ σ.gr j = some x) := fun j x hj => by
  by_cases e : j = k
  ·simp only [Hp.setGr, e, if_true, Option.some.injEq] at hj; exact .inl ⟨e, hj.symm⟩
  ·simp only [Hp.setGr, e, if_false] at hj; exact .inr ⟨e, hj⟩
 have old : ∀ j x, (σ.setGr k (some (T, es'))).gr j = some x → ∃ y, σ.gr j = some y := fun j x hj => by
  rcases cs j x hj with ⟨e, _⟩ | ⟨_, h2⟩
  ·exact ⟨_, e ▸ hk⟩
  ·exact ⟨x, h2⟩
 exact {
  obj := fun g' cells hc => by
   obtain ⟨o', h1, h2⟩ := h.obj g' cells hc
   refine ⟨o', (hb g' (lt_of_block h1) (fun e => ?_)).trans h1, h2.keep himm (.refl _)⟩
   subst e; exact h.mix k _ _ cells hk hc hM
  gr := fun j T' es2 hj => by
   rcases cs j _ hj with ⟨rfl, he⟩ | ⟨hne, h2⟩
   ·injection he with e1 e2
    subst e1; subst e2
    exact ⟨(h.gr _ _ _ hk).1, (h.gr _ _ _ hk).2.1, hel, xs', hown, hv⟩
   ·obtain ⟨a1, a0, a2, xs, a3, a4⟩ := h.gr j T' es2 h2
    refine ⟨a1, a0, a2, xs, ⟨a3.1, ?_⟩, a4.keep himm (.refl _)⟩
    rcases a3.2 with a5 | ⟨g2, cap, cur, b1, b2, b3, b4⟩
    ·exact .inl a5
    ·refine .inr ⟨g2, cap, cur, b1, b2, (hb g2 (lt_of_block b3) (fun e => hne ?_)).trans b3, b4⟩
     subst e
     exact h.two j k _ _ g2 h2 hk (by rw [b1]; rfl) hM
  two := fun j j' x x' g' hj hj' => by
   obtain ⟨y, hy⟩ := old j x hj
   obtain ⟨y', hy'⟩ := old j' x' hj'
   exact h.two j j' y y' g' hy hy'
  mix := fun j x g' cells hj hc => by
   obtain ⟨y, hy⟩ := old j x hj
   exact h.mix j y g' cells hy hc
  apart := fun g' ho => h.apart g' (by
   rcases ho with ⟨c, hc⟩ | ⟨j, x, hj, hb'⟩
   ·exact .inl ⟨c, hc⟩
   ·obtain ⟨y, hy⟩ := old j x hj
    exact .inr ⟨j, y, hy, hb'⟩)
  ilt := fun g' hi => Nat.lt_of_lt_of_le (h.ilt g' hi) hs }
theorem flatten_set : ∀ {es : List (List V)} {sz i off : Nat} {vs : List V}, (∀ e : List V, e ∈ es → e.length = sz) → i < es.length → off + vs.length ≤ sz →
    (es.set i (splice (es.getD i []) off vs)).flatten = splice es.flatten (i * sz + off) vs
  | [], _, _, _, _, _, h, _ => by simp at h
  | e :: es, sz, 0, off, vs, hl, _, ho => by
    have he := hl e List.mem_cons_self
    simp only [List.set_cons_zero, List.flatten_cons, List.getD_cons_zero, Nat.zero_mul, Nat.zero_add, splice]
    rw [List.take_append_of_le_length (by omega), List.drop_append_of_le_length (by omega)]
    simp
  | e :: es, sz, i + 1, off, vs, hl, h, ho => by
    have he := hl e List.mem_cons_self
    have ih := flatten_set (es := es) (sz := sz) (i := i) (off := off) (vs := vs) (fun e' h' => hl e' (List.mem_cons_of_mem _ h')) (by simpa using h) ho
    simp only [List.set_cons_succ, List.flatten_cons, List.getD_cons_succ]
    rw [ih]
    simp only [splice]
    rw [show (i + 1) * sz + off = e.length + (i * sz + off) by rw [he, Nat.succ_mul]; omega, List.take_append, List.take_of_length_le (l := e) (by omega), List.drop_append, List.drop_of_length_le (l := e) (by omega), List.nil_append,
      show e.length + (i * sz + off) - e.length = i * sz + off by omega, show e.length + (i * sz + off) + vs.length - e.length = i * sz + off + vs.length by omega]
    simp only [List.append_assoc]
theorem spl_len {cl ys : List Value} {o : Nat} (h : o + ys.length ≤ cl.length) : (cl.take o ++ ys ++ cl.drop (o + ys.length)).length = cl.length := by simp; omega
theorem spl_take {cl ys : List Value} {N o : Nat} (h : o + ys.length ≤ N) (hN : N ≤ cl.length) :
  (cl.take o ++ ys ++ cl.drop (o + ys.length)).take N = (cl.take N).take o ++ ys ++ (cl.take N).drop (o + ys.length) := by
 rw [List.take_append, List.take_append, List.take_take, List.take_of_length_le (l := ys) (by simp; omega), List.drop_take, List.take_take]
 congr 1
 ·congr 1
  rw [Nat.min_eq_right (by omega), Nat.min_eq_left (by omega)]
 ·congr 1
  simp; omega
theorem splV_len {es vs : List V} {o : Nat} (h : o + vs.length ≤ es.length) : (splice es o vs).length = es.length := by simp [splice]; omega
theorem setRow_imm (h : SR B n cx s σ a w) {g : Nat} {cs : Array Value} (hg : foot cx σ s.l g) : ∀ g', cx.I g' → (w.setRow g cs).heap[g']? = w.heap[g']? :=
 fun g' hi => setRow_other w g g' cs (fun e => h.foot_apart hi (e ▸ hg))
theorem semStore_sound {o : Oper} {Q : Exit → Act → World → Prop} {t : TypeId} {x y : Operand} (ho : o.op = .store t x y) (hd : dOK n o.dst) (h : SR B n cx s σ a w) (hk : semStore P B.sd t (ev s x) (ev s y) o.dst K s σ) : o.wp P a w (KC B n K) Q := by
  unfold semStore at hk
  cases hc : cellsV (ev s y) with
  | none => simp [hc] at hk
  | some vs =>
    simp only [hc] at hk
    obtain ⟨hsz, h0, hk⟩ := hk
    have hy := cellsV_TR hc (h.tr y)
    have hx := h.tr x
    have hrun : ∀ g off w', a.eval x = .pointer (some ⟨g, off, none⟩) → (storeVar t ⟨g, off, none⟩ (a.eval y)).run P w = .ok () w' → (execOp a.eval o).run P w = .ok .skip w' := fun g off w' e hr => by
      simp [execOp, ho, e, Instr.storeAt, Instr.sureAddr, hr]
    split at hk
    · rename_i b off hp
      cases hl : s.l b with
      | none => simp [hl] at hk
      | some cells =>
        simp only [hl] at hk
        obtain ⟨hsd, hlen, hk⟩ := hk
        rw [hp] at hx
        generalize hax : a.eval x = p at hx
        cases hx with
        | v hx => cases hx
        | lp =>
          obtain ⟨T, cs, hg, hcs⟩ := h.box.box b cells hl
          have hr := run_storeVar_at (P := P) (t := t) (x := a.eval y) hsz h0 hy hg (by rw [← hcs.1]; exact hlen)
          refine wp_skip' hd (hrun _ _ _ hax hr) (h.box_set hsd hl hg (hcs.splice (off := off) hy)) hk
    · rename_i g off hp
      cases hl : σ.obj g with
      | none => simp [hl] at hk
      | some cells =>
        simp only [hl] at hk
        obtain ⟨hmp, hlen, hk⟩ := hk
        rw [hp] at hx
        obtain ⟨ob, hg, hor⟩ := h.heap.obj g cells hl
        obtain ⟨T, cs, rfl, hcs⟩ := hor.row hmp
        have hr := run_storeVar_at (P := P) (t := t) (x := a.eval y) hsz h0 hy hg (by rw [← hcs.1]; exact hlen)
        refine wp_skip' (cx' := cx) hd (hrun _ _ _ hx.c_eq hr) (s' := s) ?_ hk
        have himm := setRow_imm (cs := ⟨cs.take off ++ (a.eval y).cells.toList ++ cs.drop (off + (a.eval y).cells.toList.length)⟩) h (g := g) (.inl (.inl ⟨cells, hl⟩))
        refine h.heapstep (.refl _) rfl (fun _ hg => .inl hg) (fun g' hg' => ?_) rfl rfl ⟨rfl, fun _ => Nat.le_refl _⟩ (by simp) (fun g' hlt hno => setRow_other w g g' _ (fun e => hno (e ▸ .inl ⟨cells, hl⟩)))
          (h.heap.setObj_same hl (setRow_heap w g _ _ T _ hg) (.cells ((hcs.splice (off := off) hy).keep himm (.refl _))) (by simp) (fun g' _ hne => setRow_other w g g' _ hne)) (fun _ x hk => .inl ⟨x, hk⟩) (fun g' x hx => ?_)
        · rcases own_setObj hg' with h1 | h1
          · exact .inl h1
          · exact .inl (h1 ▸ .inl ⟨cells, hl⟩)
        · by_cases e : g' = g
          · exact .inl ⟨cells, e ▸ hl⟩
          · simp only [Hp.setObj, e, if_false] at hx; exact .inl ⟨x, hx⟩
    · rename_i k i off hp
      cases hl : σ.gr k with
      | none => simp [hl] at hk
      | some te =>
        obtain ⟨T, es⟩ := te
        simp only [hl] at hk
        obtain ⟨hi, hlen, hk⟩ := hk
        rw [hp] at hx
        obtain ⟨hkn, _, hel, xs, hown, hxs⟩ := h.heap.gr k T es hl
        generalize hax : a.eval x = p at hx
        cases hx with
        | v hx =>
          cases hx with
          | @gp _ _ _ g _ hM =>
            obtain ⟨g', cap, cur, hMk, hb, hbl, hcap, hcs⟩ := ownsRow_form hown (by omega)
            have eg : g' = g := by rw [hM] at hb; injection hb with hb; exact hb.symm
            subst eg
            have he : (es.getD i []).length = cx.Z k := by
              have : es.getD i [] = es[i] := by simp [List.getD, hi]
              rw [this]; exact hel _ (List.getElem_mem _)
            have hoff : off + vs.length ≤ cx.Z k := by omega
            have hfit : i * cx.Z k + off + vs.length ≤ es.length * cx.Z k := by
              calc i * cx.Z k + off + vs.length ≤ i * cx.Z k + cx.Z k := by omega
                _ = (i + 1) * cx.Z k := (Nat.succ_mul i _).symm
                _ ≤ es.length * cx.Z k := Nat.mul_le_mul_right _ hi
            have hcapsz : es.length * cx.Z k ≤ cap * cx.Z k := Nat.mul_le_mul_right _ hcap
            have hcl : cur.toList.length = cap * cx.Z k := by simpa using hcs
            have hr := run_storeVar_at (P := P) (t := t) (x := a.eval y) (g := g') (o := i * cx.Z k + off) (cs := cur.toList) hsz h0 hy (by simpa using hbl) (by omega)
            have himm := setRow_imm (cs := ⟨cur.toList.take (i * cx.Z k + off) ++ (a.eval y).cells.toList ++ cur.toList.drop (i * cx.Z k + off + (a.eval y).cells.toList.length)⟩) h (g := g') (.inl (.inr ⟨k, _, hl, hM⟩))
            have hxl : xs.length = es.length * cx.Z k := hown.1
            have htake : cur.toList.take (es.length * cx.Z k) = xs := by
              rcases hown.2 with ⟨_, h3⟩ | ⟨g2, cap2, cur2, e1, _, e3, _, _, _, e7⟩
              · omega
              · rw [hMk] at e1; injection e1 with e1; injection e1 with e1; injection e1 with e1; subst e1
                rw [hbl] at e3; injection e3 with e3; injection e3 with e3
                rw [e3]; exact e7
            refine wp_skip' (cx' := cx) hd (hrun _ _ _ hax hr) (s' := s) ?_ hk
            have hnew : (cur.toList.take (i * cx.Z k + off) ++ (a.eval y).cells.toList ++ cur.toList.drop (i * cx.Z k + off + (a.eval y).cells.toList.length)).take (es.length * cx.Z k) =
                xs.take (i * cx.Z k + off) ++ (a.eval y).cells.toList ++ xs.drop (i * cx.Z k + off + (a.eval y).cells.toList.length) := by
              rw [← htake]
              exact spl_take (by rw [← hy.1]; omega) (by omega)
            have hown' : (w.setRow g' ⟨cur.toList.take (i * cx.Z k + off) ++ (a.eval y).cells.toList ++ cur.toList.drop (i * cx.Z k + off + (a.eval y).cells.toList.length)⟩).ownsRow 0 T.1 (cx.Z k) (cx.M k)
                (es.set i (splice (es.getD i []) off vs)).length (xs.take (i * cx.Z k + off) ++ (a.eval y).cells.toList ++ xs.drop (i * cx.Z k + off + (a.eval y).cells.toList.length)) := by
              have hyl : (a.eval y).cells.toList.length = vs.length := hy.1.symm
              rw [List.length_set]
              refine ⟨by rw [spl_len (by omega)]; exact hxl, .inr ⟨g', cap, _, hMk, by omega, setRow_heap w g' _ _ T.1 _ hbl, hcap, ?_, ?_, ?_⟩⟩
              · rcases hown.2 with ⟨_, h3⟩ | ⟨g2, cap2, cur2, e1, _, e3, _, e5, _, e7⟩
                · omega
                · rw [hMk] at e1; injection e1 with e1 e2 e4; rw [e4]; exact e5
              · rw [List.size_toArray, spl_len (by omega)]; exact hcl
              · exact hnew
            refine h.heapstep (.refl _) rfl (fun _ hg => .inl hg) (fun g2 hg2 => ?_) rfl rfl ⟨rfl, fun _ => Nat.le_refl _⟩ (by simp) (fun g2 hlt hno => setRow_other w g' g2 _ (fun e => hno (e ▸ .inr ⟨k, _, hl, hM⟩)))
              (h.heap.setGr_same hl hM hown' ?_ ?_ (by simp) (fun g2 _ hne => setRow_other w g' g2 _ hne)) (fun k2 x hx => ?_) (fun _ x hk => .inl ⟨x, hk⟩)
            · rcases hg2 with ⟨c, hc'⟩ | ⟨k2, x, hk2, hb'⟩
              · exact .inl (.inl ⟨c, hc'⟩)
              · by_cases e : k2 = k
                · exact .inl (.inr ⟨k, _, hl, e ▸ hb'⟩)
                · simp only [Hp.setGr, e, if_false] at hk2; exact .inl (.inr ⟨k2, x, hk2, hb'⟩)
            · rw [flatten_set hel hi hoff]
              exact (hxs.splice (off := i * cx.Z k + off) hy).keep himm (.refl _)
            · intro e he'
              rcases List.mem_or_eq_of_mem_set he' with h1 | h1
              · exact hel e h1
              · rw [h1, splV_len (by omega)]; exact he
            · by_cases e : k2 = k
              · exact .inl ⟨_, e ▸ hl⟩
              · simp only [Hp.setGr, e, if_false] at hx; exact .inl ⟨x, hx⟩
    · exact hk.elim
end
end Go.Abs
namespace Go.Abs
open Go
section
variable {P : Program} {B : Base} {n : Nat} {cx cx' : Cx} {s : St} {σ σ' : Hp} {a : Act} {w w' : World} {K : St → Hp → Prop}
variable [Mode]
def srcE (σ : Hp) : V → Option (List (List V))
  | .sl es => some es
  | .c (.slice none 0 0) => some []
  | .gl k => (σ.gr k).map (·.2)
  | _ => none
theorem src_row {v : V} {x : Value} {es : List (List V)} {sz : Nat} (hH : HR cx σ w) (hx : TR w cx v x) (h : srcE σ v = some es) (hel : ∀ e : List V, e ∈ es → e.length = sz) :
    (x = .slice none 0 0 ∧ es = []) ∨ ((∃ a, x = .slice (some a) 0 0) ∧ es = []) ∨ ∃ b o cap xs, x = .slice (some ⟨b, o, none⟩) es.length cap ∧ es.length ≤ cap ∧ xs.length = es.length * sz ∧ VRs w cx es.flatten xs ∧ ∀ (j : Nat) (u : Value), xs[j]? = some u → w.cell? ⟨b, o + j, none⟩ = some u := by
  unfold srcE at h
  split at h
  · injection h with h; subst h
    cases hx with
    | v hx =>
      cases hx with
      | nils => exact .inl ⟨rfl, rfl⟩
      | nile a => exact .inr (.inl ⟨⟨a, rfl⟩, rfl⟩)
      | sl f hI hcap hlen hc hr h1 =>
        rename_i es sz' b o cap
        obtain ⟨xs, hl, hv, hcell⟩ := VR.sl_row hlen hc hr h1
        refine .inr (.inr ⟨b, o, cap, xs, rfl, hcap, ?_, hv, hcell⟩)
        cases es with
        | nil => simpa using hl
        | cons e es => rw [hl, ← hlen 0 e rfl, hel e List.mem_cons_self]
  · injection h with h; subst h
    exact .inl ⟨hx.c_eq, rfl⟩
  · rename_i k
    cases hk : σ.gr k with
    | none => simp [hk] at h
    | some te =>
      obtain ⟨T, es'⟩ := te
      simp [hk] at h; subst h
      obtain ⟨hkn, _, hel', xs, hown, hxs⟩ := hH.gr k T _ hk
      cases hx with
      | v hx =>
        cases hx with
        | gl _ _ =>
          rcases hown.2 with ⟨hM, h0⟩ | ⟨g, cap, cur, hM, _, hg, hcap, _, hcs, htake⟩
          · exact .inl ⟨hM, List.eq_nil_of_length_eq_zero h0⟩
          · have hcell := hown.cells (g := g) (by rw [hM]; rfl)
            refine .inr (.inr ⟨g, 0, cap, xs, hM, hcap, ?_, hxs, fun j u hu => by have := hcell j u hu; rwa [Addr.add_lit] at this⟩)
            rw [hown.1]
            cases es' with
            | nil => simp
            | cons e es => rw [← hel' e List.mem_cons_self, hel e List.mem_cons_self]
  · cases h
def dstE (σ : Hp) (T sz : Nat) : V → Option (Option Nat × List (List V))
  | .c (.slice none 0 0) => some (none, [])
  | .gl k => match σ.gr k with
    | some (T', es) => if T' = (T, sz) then some (some k, es) else none
    | none => none
  | _ => none
def Hp.delO (σ : Hp) : Option Nat → Hp
  | some k => σ.setGr k none
  | none => σ
theorem dst_row {v : V} {x : Value} {T sz : Nat} {ok : Option Nat} {es : List (List V)} (hH : HR cx σ w) (hx : TR w cx v x) (h : dstE σ T sz v = some (ok, es)) :
    ∃ xs, w.ownsRow 0 T sz x es.length xs ∧ VRs w cx es.flatten xs ∧ (∀ e : List V, e ∈ es → e.length = sz) ∧ x.oneCell' = true ∧
      (∀ g, x.ownBlock = some g → σ.own cx g ∧ ¬ (σ.delO ok).own cx g) := by
  unfold dstE at h
  split at h
  · injection h with h; injection h with h1 h2; subst h1; subst h2
    rw [hx.c_eq]
    exact ⟨[], World.ownsRow_nil w 0 T sz, .nil, fun e he => by simp at he, rfl, fun g hg => by simp [Value.ownBlock] at hg⟩
  · rename_i k
    cases hk : σ.gr k with
    | none => simp [hk] at h
    | some te =>
      obtain ⟨T', es'⟩ := te
      simp only [hk] at h
      split at h
      · rename_i hT
        injection h with h; injection h with h1 h2; subst h1; subst h2; subst hT
        obtain ⟨hkn, e, hel', xs, hown, hxs⟩ := hH.gr k _ _ hk
        simp only at e hown
        rw [e] at hown hel'
        cases hx with
        | v hx =>
          cases hx with
          | gl _ hs =>
            refine ⟨xs, hown, hxs, hel', hs, fun g hg => ⟨.inr ⟨k, _, hk, hg⟩, ?_⟩⟩
            rintro (⟨c, hc⟩ | ⟨k', x, hk', hb⟩)
            · exact hH.mix k _ g c hk hc hg
            · simp only [Hp.delO, Hp.setGr] at hk'
              by_cases e : k' = k
              · simp [e] at hk'
              · simp only [e, if_false] at hk'
                exact e (hH.two k' k x _ g hk' hk hb hg)
      · cases h
  · cases h
theorem delO_sub (ok : Option Nat) : (∀ g x, (σ.delO ok).obj g = some x → σ.obj g = some x) ∧ (∀ k x, (σ.delO ok).gr k = some x → σ.gr k = some x) := by
  cases ok with
  | none => exact ⟨fun _ _ h => h, fun _ _ h => h⟩
  | some k =>
    refine ⟨fun _ _ h => h, fun j x h => ?_⟩
    simp only [Hp.delO, Hp.setGr] at h
    by_cases e : j = k
    · simp [e] at h
    · simpa [e] using h
theorem delO_new (ok : Option Nat) (hH : HR cx σ w) : (σ.delO ok).gr cx.nm = none := by
 cases hk : (σ.delO ok).gr cx.nm with
 | none => rfl
 | some x => have := (hH.gr _ x.1 x.2 ((delO_sub ok).2 _ _ hk)).1; omega
theorem SR.grown (h : SR B n cx s σ a w) {ok : Option Nat} {T sz : Nat} {v v' : Value} {es' : List (List V)} {xs' : List Value}
  (hv : ∀ g, v.ownBlock = some g → σ.own cx g ∧ ¬ (σ.delO ok).own cx g) (hown : w'.ownsRow 0 T sz v' es'.length xs') (hg : w.grownBy w' v.ownBlock)
  (hb : v'.ownBlock = v.ownBlock ∨ v'.ownBlock = some w.heap.size ∨ v'.ownBlock = none) (hx : VRs w cx es'.flatten xs') (hel : ∀ e : List V, e ∈ es' → e.length = sz) (hdr : w.drawn ≤ w'.drawn) :
  SR B n (cx.addG v' sz) s ((σ.delO ok).setGr cx.nm (some ((T, sz), es'))) a w' := by
 have h0 : HR cx (σ.delO ok) w := h.heap.sub (delO_sub ok).1 (delO_sub ok).2
 have hblk : ∀ g, g < w.heap.size → ¬ v.ownBlock = some g → w'.heap[g]? = w.heap[g]? := fun g hlt hne => hg.block g hlt (fun e => hne e.symm)
 have h1 : HR cx (σ.delO ok) w' := h0.keep (.refl _) (fun g => v.ownBlock = some g) (fun g e => (hv g e).2) (fun g e => h.heap.apart g (hv g e).1) (fun g hi ho => h0.apart g ho hi) (fun g hi => Nat.lt_of_lt_of_le (h.heap.ilt g hi) hg.size) hblk
 have himm : ∀ g, cx.I g → w'.heap[g]? = w.heap[g]? := fun g hi => hblk g (h.heap.ilt g hi) (fun e => h.heap.apart g (hv g e).1 hi)
 have hnew : ∀ g, v'.ownBlock = some g → ¬ (σ.delO ok).own cx g ∧ ¬ cx.I g := fun g hg' => by
  rcases hb with e | e | e
  ·rw [e] at hg'; exact ⟨(hv g hg').2, h.heap.apart g (hv g hg').1⟩
  ·rw [e] at hg'; injection hg' with hg'; subst hg'
   exact ⟨fun ho => by have := h0.own_lt ho; omega, fun hi => by have := h.heap.ilt _ hi; omega⟩
  ·rw [e] at hg'; cases hg'
 refine h.heapstep (cx.le_addG v' sz) rfl (fun g hi => .inl hi) (fun g ho => ?_) hg.os hg.tape ⟨hg.output, fun _ => hdr⟩ hg.size (fun g hlt hno => hblk g hlt (fun e => hno (hv g e).1))
  (h1.addGr hown (hx.keep himm (.refl _)) hel hnew) (fun k x hk => ?_) (fun g x hk => .inl ⟨x, (delO_sub ok).1 g x hk⟩)
 ·rcases own_addGr h1 ho with h2 | h2
  ·exact .inl (own_sub (delO_sub ok).1 (delO_sub ok).2 h2)
  ·rcases hb with e | e | e
   ·rw [e] at h2; exact .inl (hv g h2).1
   ·rw [e] at h2; injection h2 with h2; exact .inr (by omega)
   ·rw [e] at h2; cases h2
 ·by_cases e : k = cx.nm
  ·exact .inr (by omega)
  ·simp only [Hp.setGr, e, if_false] at hk
   exact .inl ⟨x, (delO_sub ok).2 k x hk⟩
def reach : Nat := 140737488355328
def semAppend (P : Program) (t : TypeId) (x y : V) (d : Option Nat) (K : St → Hp → Prop) (s : St) (σ : Hp) : Prop :=
  match dstE σ (P.elem t) (szT P (P.elem t)) x, srcE σ y with
  | some (ok, es), some es2 => slT P t = true ∧ szT P (P.elem t) ≠ 0 ∧ (∃ z, zeroT P (P.elem t) = some z ∧ z.cells.size = szT P (P.elem t)) ∧
      (∀ e : List V, e ∈ es2 → e.length = szT P (P.elem t)) ∧
      es.length + es2.length ≤ maxLen ∧ (es.length + es2.length) * P.bytesOf (P.elem t) ≤ reach ∧
      ∀ k', (σ.delO ok).gr k' = none → K (s.putO d (.gl k')) ((σ.delO ok).setGr k' (some ((P.elem t, szT P (P.elem t)), es ++ es2)))
  | _, _ => False
theorem info_of_size {t : TypeId} (h : szT P t ≠ 0) : ∃ i, P.info? t = some i ∧ i.size = szT P t ∧ i.bytes = P.bytesOf t ∧ zeroT P t = i.zero := by
 unfold szT Program.cellsOf at *
 cases hi : P.info? t with
 | none => simp [hi] at h
 | some i => exact ⟨i, rfl, by simp, by simp [Program.bytesOf, hi], by simp [zeroT, hi]⟩
theorem semAppend_sound {o : Oper} {Q : Exit → Act → World → Prop} {t : TypeId} {x y : Operand} (ho : o.op = .call { callee := .builtin .append, args := #[x, y], argTypes := #[t, t] }) (hd : dOK n o.dst)
    (h : SR B n cx s σ a w) (hk : semAppend P t (ev s x) (ev s y) o.dst K s σ) : o.wp P a w (KC B n K) Q := by
  unfold semAppend at hk
  cases hdE : dstE σ (P.elem t) (szT P (P.elem t)) (ev s x) with
  | none => simp [hdE] at hk
  | some de =>
    obtain ⟨ok, es⟩ := de
    cases hsE : srcE σ (ev s y) with
    | none => simp [hdE, hsE] at hk
    | some es2 =>
      simp only [hdE, hsE] at hk
      obtain ⟨ht, hz, ⟨z, hzt, hzs⟩, hel2, hmax, hby, hk⟩ := hk
      obtain ⟨i, hi, hisz, hib, hiz⟩ := info_of_size hz
      obtain ⟨xs, hown, hxs, hel, hone, hblk⟩ := dst_row h.heap (h.tr x) hdE
      have key : ∀ v' w' xs2, (Builtin.append_ #[t, t] o.type #[a.eval x, a.eval y]).run P w = .ok v' w' → w'.ownsRow 0 (P.elem t) (szT P (P.elem t)) v' (es.length + es2.length) (xs ++ xs2) → w.grownBy w' (a.eval x).ownBlock →
          (v'.ownBlock = (a.eval x).ownBlock ∨ v'.ownBlock = some w.heap.size ∨ v'.ownBlock = none) → VRs w cx es2.flatten xs2 → o.wp P a w (KC B n K) Q := fun v' w' xs2 hr hown' hg hb hx2 => by
        have hrun : (execOp a.eval o).run P w = .ok (.value v') w' := by
          simp [execOp, ho, resolve, invoke, builtin, hr]
        have hs := h.grown (ok := ok) (T := P.elem t) (sz := szT P (P.elem t)) (es' := es ++ es2) hblk (by rw [List.length_append]; exact hown') hg hb (by rw [List.flatten_append]; exact hxs.append hx2)
          (fun e he => by rcases List.mem_append.1 he with h1 | h1; exact hel e h1; exact hel2 e h1) (run_drawn _ hrun)
        have hsome : v'.oneCell' = true := by
          rcases hown'.2 with ⟨e, _⟩ | ⟨g, cap, cur, e, _⟩ <;> rw [e] <;> rfl
        have hvr : VR w' (cx.addG v' (szT P (P.elem t))) (.gl cx.nm) v' := by
          have := VR.gl (w := w') (cx := cx.addG v' (szT P (P.elem t))) (k := cx.nm) (Nat.lt_succ_self _) (by rw [Cx.addG_M]; exact hsome)
          rwa [Cx.addG_M] at this
        exact wp_new hd hrun hs (.v hvr) (hk cx.nm (delO_new ok h.heap))
      rcases src_row h.heap (h.tr y) hsE hel2 with ⟨hy, he2⟩ | ⟨⟨a', hy⟩, he2⟩ | ⟨b, off, cap, xs2, hy, hcap, hl2, hx2, hcell⟩
      · subst he2
        have hr := run_append_owned_none (P := P) w 0 t o.type (P.elem t) i (szT P (P.elem t)) (slT_eq ht) hi (a.eval x) es.length xs (by first | exact hown | exact hisz)
        refine key (a.eval x) w [] (by rw [hy]; exact hr) (by simpa using hown) (World.grownBy.refl w _) (.inl rfl) .nil
      · subst he2
        obtain ⟨v', w', hr, h1, h2, _, h3⟩ := run_append_own_at (P := P) w 0 t o.type (P.elem t) i z (szT P (P.elem t)) (P.bytesOf (P.elem t)) (slT_eq ht) hi (by rw [← hiz]; exact hzt) hisz hib hzs (by omega)
          (a.eval x) es.length xs hown a' 0 0 [] (by simp) (fun j u hu => by simp at hu) (fun _ h => by cases h) hmax hby (Nat.zero_le _)
        exact key v' w' [] (by rw [hy]; exact hr) h1 h2 (h3.imp id .inl) .nil
      · obtain ⟨v', w', hr, h1, h2, _, h3⟩ := run_append_own_at (P := P) w 0 t o.type (P.elem t) i z (szT P (P.elem t)) (P.bytesOf (P.elem t)) (slT_eq ht) hi (by rw [← hiz]; exact hzt) hisz hib hzs (by omega)
          (a.eval x) es.length xs hown ⟨b, off, none⟩ es2.length cap xs2 hl2 (fun j u hu => by rw [Addr.add_lit]; exact hcell j u hu) hx2.2.1 hmax hby (Nat.zero_le _)
        exact key v' w' xs2 (by rw [hy]; exact hr) h1 h2 (h3.imp id .inl) hx2
end
end Go.Abs
namespace Go.Abs
open Go
section
variable {P : Program} {B : Base} {n : Nat} {cx cx' : Cx} {s : St} {σ σ' : Hp} {a : Act} {w w' : World} {K : St → Hp → Prop}
variable [Mode]
def allCells : List V → Option (List (List V))
  | [] => some []
  | v :: vs => match cellsV v, allCells vs with
    | some c, some cs => some (c :: cs)
    | _, _ => none
def semBuildSlice (P : Program) (t : TypeId) (len : Nat) (parts : List (Nat × V)) (own : Bool) (d : Option Nat) (K : St → Hp → Prop) (s : St) (σ : Hp) : Prop :=
  match allCells (parts.map (·.2)) with
  | none => False
  | some es => slT P t = true ∧ szT P (P.elem t) ≠ 0 ∧ (∃ z, zeroT P (P.elem t) = some z) ∧ parts.map (·.1) = List.range len ∧ len * szT P (P.elem t) ≤ 16777216 ∧ (∀ e : List V, e ∈ es → e.length = szT P (P.elem t)) ∧
    (match own with
     | false => K (s.putO d (.sl es)) σ
     | true => ∀ k', σ.gr k' = none → K (s.putO d (.gl k')) (σ.setGr k' (some ((P.elem t, szT P (P.elem t)), es))))
theorem allCells_sound : ∀ {vs : List V} {es : List (List V)} {xs : List Value}, allCells vs = some es → vs.length = xs.length → (∀ (i : Nat) (v : V) (x : Value), vs[i]? = some v → xs[i]? = some x → TR w cx v x) →
    VRs w cx es.flatten (xs.map fun x => x.cells.toList).flatten ∧ es.length = vs.length ∧ (∀ (i : Nat) (e : List V) (x : Value), es[i]? = some e → xs[i]? = some x → e.length = x.cells.size)
  | [], es, xs, h, hl, _ => by
    simp only [allCells, Option.some.injEq] at h
    subst h
    have : xs = [] := List.eq_nil_of_length_eq_zero (by simpa using hl.symm)
    subst this
    exact ⟨.nil, rfl, fun i e x h => by simp at h⟩
  | v :: vs, es, [], h, hl, _ => by simp at hl
  | v :: vs, es, x :: xs, h, hl, ht => by
    simp only [allCells] at h
    split at h
    · rename_i c cs hc hcs
      injection h with h
      subst h
      obtain ⟨h1, h2, h3⟩ := allCells_sound (xs := xs) hcs (by simpa using hl) (fun i v' x' hv hx => ht (i + 1) v' x' (by simpa using hv) (by simpa using hx))
      have hv := cellsV_TR hc (ht 0 v x rfl rfl)
      refine ⟨by rw [List.flatten_cons, List.map_cons, List.flatten_cons]; exact hv.append h1, by simp [h2], fun i e x' he hx => ?_⟩
      cases i with
      | zero => simp at he hx; subst he; subst hx; rw [← Array.length_toList]; exact hv.1
      | succ i => exact h3 i e x' (by simpa using he) (by simpa using hx)
    · cases h
theorem fill_range (sz : Nat) : ∀ (xs : List Value) (k : Nat) (cs : List Value), (∀ x ∈ xs, x.cells.size = sz) → cs.length = (k + xs.length) * sz →
    Instr.fill (fun i => some (i * sz, sz)) ⟨cs⟩ ((List.range' k xs.length).zip xs) = some ⟨cs.take (k * sz) ++ (xs.map fun x => x.cells.toList).flatten⟩
  | [], k, cs, _, hl => by simp [Instr.fill]; rw [List.take_of_length_le]; simp at hl; omega
  | x :: xs, k, cs, hx, hl => by
    have h1 : x.cells.size = sz := hx x List.mem_cons_self
    have hl' : cs.length = k * sz + sz + xs.length * sz := by rw [hl, List.length_cons, Nat.add_mul, Nat.succ_mul]; omega
    rw [List.length_cons, List.range'_succ, List.zip_cons_cons]
    simp only [Instr.fill]
    rw [if_neg (by simp; omega)]
    rw [← Array.foldl_toList, Array.toList_zipIdx, fold_set x.cells.toList 0 cs (k * sz) (by simp; omega)]
    have hlen : x.cells.toList.length = sz := by simpa using h1
    simp only [Nat.add_zero]
    rw [fill_range sz xs (k + 1) _ (fun y hy => hx y (List.mem_cons_of_mem _ hy)) (by simp only [List.length_append, List.length_take, List.length_drop, hlen]; rw [Nat.add_mul, Nat.succ_mul]; omega)]
    congr 2
    rw [show (k + 1) * sz = k * sz + sz from Nat.succ_mul k sz, List.take_append_of_le_length (by simp; omega), List.take_of_length_le (by simp; omega)]
    simp
theorem SR.sl_new (h : SR B n cx s σ a w) {T : Nat} {cs : List Value} {es : List (List V)} {sz cap : Nat} (hv : VRs w cx es.flatten (cs.take (es.length * sz))) (hel : ∀ e : List V, e ∈ es → e.length = sz) (hcap : es.length ≤ cap) {fr : Nat × Nat}
  (hs : w'.heap.size = w.heap.size + 1) (hb : ∀ g, g < w.heap.size → w'.heap[g]? = w.heap[g]?) (hn : w'.heap[w.heap.size]? = some (.cells ⟨cs⟩ T fr)) (hos : w'.os = w.os) (ht : w'.tape = w.tape) (ho : w'.output = w.output ∧ (Mode.dm → w.drawn ≤ w'.drawn)) :
  SR B n (cx.addI w.heap.size) s σ a w' ∧ VR w' (cx.addI w.heap.size) (.sl es) (.slice (some ⟨w.heap.size, 0, none⟩) es.length cap) := by
 refine ⟨h.immNew hs hb hos ht ho, VR.sl_of_row (sz := sz) (xs := cs.take (es.length * sz)) (.inr rfl) hcap hel (hv.keep (fun g hg => hb g (h.heap.ilt g hg)) (cx.le_addI _)) (fun j x hx => ?_)⟩
 rw [cell_of_row w' _ _ _ _ _ hn, Nat.zero_add]
 rw [List.getElem?_take] at hx
 split at hx
 ·simpa using hx
 ·cases hx
theorem zip_maps : ∀ (l : List (Nat × Value)), (l.map (·.1)).zip (l.map (·.2)) = l
 | [] => rfl
 | (i, x) :: l => by simp [zip_maps l]
theorem map_zip_fst (l : List (Nat × Value)) {len : Nat} (h : l.map (·.1) = List.range len) : l = (List.range' 0 (l.map (·.2)).length).zip (l.map (·.2)) := by
 have hl : l.length = len := by have := congrArg List.length h; simpa using this
 rw [List.length_map, hl, ← List.range_eq_range', ← h]
 exact (zip_maps l).symm
theorem flat_len {es : List (List V)} {sz : Nat} (hel : ∀ e : List V, e ∈ es → e.length = sz) : es.flatten.length = es.length * sz := by
 induction es with
 | nil => simp
 | cons e es ih => rw [List.flatten_cons, List.length_append, ih (fun e' h' => hel e' (List.mem_cons_of_mem _ h')), hel e List.mem_cons_self, List.length_cons, Nat.succ_mul, Nat.add_comm]
theorem semBuildSlice_sound {o : Oper} {Q : Exit → Act → World → Prop} {t : TypeId} {len : Nat} {parts : Array (Nat × Operand)} {own : Bool} (ho : o.op = .buildSlice t len parts) (hd : dOK n o.dst) (h : SR B n cx s σ a w)
    (hk : semBuildSlice P t len (parts.toList.map fun p => (p.1, ev s p.2)) own o.dst K s σ) : o.wp P a w (KC B n K) Q := by
  unfold semBuildSlice at hk
  split at hk
  · exact hk.elim
  · rename_i es hes
    obtain ⟨ht, hz, ⟨z, hzt⟩, hidx, hbig, hel, hk⟩ := hk
    obtain ⟨i, hi, hisz, _, hiz⟩ := info_of_size hz
    have hidx' : parts.toList.map (·.1) = List.range len := by simpa [Function.comp_def] using hidx
    let ps : List (Nat × Value) := parts.toList.map fun p => (p.1, a.eval p.2)
    let xs : List Value := parts.toList.map fun p => a.eval p.2
    have hpsx : ps.map (·.2) = xs := by simp [ps, xs, Function.comp_def]
    have hps1 : ps.map (·.1) = List.range len := by simpa [ps, Function.comp_def] using hidx'
    have hpl : parts.size = len := by have := congrArg List.length hidx'; simpa using this
    have hxl : xs.length = len := by simp [xs, hpl]
    obtain ⟨h1, h2, h3⟩ := allCells_sound (w := w) (cx := cx) (xs := xs) hes (by simp [xs]) (fun i v x hv hx => by
      simp only [List.map_map, List.getElem?_map, Option.map_eq_some_iff, xs] at hv hx
      obtain ⟨p, hp, rfl⟩ := hv
      obtain ⟨q, hq, rfl⟩ := hx
      rw [hp] at hq; injection hq with hq; subst hq
      exact h.tr p.2)
    have hel2 : es.length = len := by rw [h2]; simp [hpl]
    have hxs : ∀ x ∈ xs, x.cells.size = szT P (P.elem t) := fun x hx => by
      obtain ⟨i, hi, rfl⟩ := List.mem_iff_getElem.1 hx
      have hie : i < es.length := by omega
      have := h3 i es[i] xs[i] (List.getElem?_eq_getElem hie) (List.getElem?_eq_getElem hi)
      rw [← this]; exact hel _ (List.getElem_mem _)
    have hcl : ((xs.map fun x => x.cells.toList).flatten).length = len * szT P (P.elem t) := by
      rw [← h1.1, flat_len hel, hel2]
    have hgen : ∀ A : Array Value, A.size = len * szT P (P.elem t) → Instr.fill (fun i => some (i * szT P (P.elem t), szT P (P.elem t))) A ps = some ⟨(xs.map fun x => x.cells.toList).flatten⟩ := fun A hA => by
      have := fill_range (szT P (P.elem t)) xs 0 A.toList hxs (by rw [Array.length_toList, hA, hxl, Nat.zero_add])
      rw [map_zip_fst ps hps1, hpsx]
      simpa using this
    have hrun : (execOp a.eval o).run P w = .ok (.value (.slice (some ⟨w.heap.size, 0, none⟩) len len)) (w.alloc (.cells ⟨(xs.map fun x => x.cells.toList).flatten⟩ (P.elem t))) := by
      have hpa : (parts.map fun x => (x.1, a.eval x.2)).toList = ps := by simp [ps]
      simp only [execOp, ho, Instr.buildSlice, Sem.run_bind, run_underlying (slT_eq ht), Result.andThen_ok, run_sizeOf (P := P) (t := P.elem t) rfl hz]
      rw [if_neg (by omega)]
      simp only [hpa]
      by_cases h0 : len * szT P (P.elem t) = 0
      · simp only [h0, if_true, Sem.run_bind, Sem.run_pure, Result.andThen_ok]
        rw [hgen _ (by simp [h0])]
        simp [newRow]
      · simp only [h0, if_false, Sem.run_bind, zeroT_run hzt, Result.andThen_ok, Sem.run_pure]
        rw [hgen _ (by simp)]
        simp [newRow]
    have hv : VRs w cx es.flatten (((xs.map fun x => x.cells.toList).flatten).take (es.length * szT P (P.elem t))) := by
      rw [List.take_of_length_le (by rw [hcl, hel2]; omega)]; exact h1
    have e2 : (Value.slice (some ⟨w.heap.size, 0, none⟩) len len) = .slice (some ⟨w.heap.size, 0, none⟩) es.length len := by rw [hel2]
    cases own with
    | false =>
      simp only at hk
      obtain ⟨hs, hr⟩ := h.sl_new (T := P.elem t) (cap := len) (w' := w.alloc (.cells ⟨(xs.map fun x => x.cells.toList).flatten⟩ (P.elem t))) hv hel (by omega) (by simp) (fun g hg => heap_alloc_old w _ hg) (heap_alloc_new w _) rfl rfl ⟨rfl, fun _ => Nat.le_refl _⟩
      exact wp_new hd hrun hs (.v (by rw [e2]; exact hr)) hk
    | true =>
      simp only at hk
      have hown : (w.alloc (.cells ⟨(xs.map fun x => x.cells.toList).flatten⟩ (P.elem t))).ownsRow 0 (P.elem t) (szT P (P.elem t)) (.slice (some ⟨w.heap.size, 0, none⟩) len len) es.length ((xs.map fun x => x.cells.toList).flatten) :=
        ⟨by rw [hcl, hel2], .inr ⟨w.heap.size, len, _, by rw [hel2], by omega, heap_alloc_new w _, by omega, by
          have : len ≤ len * szT P (P.elem t) := Nat.le_mul_of_pos_right len (by omega)
          unfold maxLen; omega, by simpa using hcl, by simp only [hel2]; exact List.take_of_length_le (by omega)⟩⟩
      have hs := h.grown (ok := none) (v := .slice none 0 0) (T := P.elem t) (sz := szT P (P.elem t)) (es' := es) (w' := w.alloc (.cells ⟨(xs.map fun x => x.cells.toList).flatten⟩ (P.elem t))) (fun g hg => by simp [Value.ownBlock] at hg) hown
        (World.grownBy_alloc w _ _) (.inr (.inl rfl)) h1 hel (Nat.le_refl _)
      refine wp_new hd hrun hs (.v ?_) (hk cx.nm h.heap.no_nm)
      have := VR.gl (w := w.alloc (.cells ⟨(xs.map fun x => x.cells.toList).flatten⟩ (P.elem t))) (cx := cx.addG (.slice (some ⟨w.heap.size, 0, none⟩) len len) (szT P (P.elem t))) (k := cx.nm) (Nat.lt_succ_self _) (by rw [Cx.addG_M]; rfl)
      rwa [Cx.addG_M] at this
end
end Go.Abs
namespace Go.Abs
open Go
section
variable {P : Program} {B : Base} {n : Nat} {cx cx' : Cx} {s : St} {σ σ' : Hp} {a : Act} {w w' : World} {K : St → Hp → Prop}
variable [Mode]
theorem VRs.bytes (bs : List UInt8) : VRs w cx (bs.map encU8).flatten (bs.map fun b => Value.int .u8 (b.toNat : Int)) := by
 induction bs with
 | nil => exact .nil
 | cons b bs ih => rw [List.map_cons, List.flatten_cons, List.map_cons]; exact VRs.cons rfl (.c _) ih
theorem enc_flat : ∀ bs : List UInt8, (bs.map encU8).flatten = (bs.map fun b => Value.int .u8 (b.toNat : Int)).map .c
 | [] => rfl
 | b :: bs => by rw [List.map_cons, List.flatten_cons, enc_flat bs]; rfl
theorem VRs.of_consts : ∀ {us xs : List Value}, VRs w cx (us.map .c) xs → xs = us
  | [], _, h => h.unnil
  | u :: us, xs, h => by
    obtain ⟨x, ys, rfl, _, h1, h2⟩ := h.uncons
    cases h1
    rw [VRs.of_consts h2]
def semConv (P : Program) (src dst : TypeId) (x : V) (d : Option Nat) (K : St → Hp → Prop) (s : St) (σ : Hp) : Prop :=
  match cnvT P src dst, x with
  | .toBytes _, .c (.string str) => K (s.putO d (.sl (str.data.toList.map encU8))) σ
  | .toBytes _, _ => False
  | .toStr, x => match srcE σ x with
    | some es => ∃ bs : List UInt8, es = bs.map encU8 ∧ K (s.putO d (.c (.string ⟨bs.toArray⟩))) σ
    | none => False
  | _, x => qConv P src dst (fun v => K (s.putO d v) σ) x
theorem semConv_sound {o : Oper} {Q : Exit → Act → World → Prop} {src dst : TypeId} {x : Operand} (ho : o.op = .convert src dst x) (hd : dOK n o.dst) (h : SR B n cx s σ a w) (hk : semConv P src dst (ev s x) o.dst K s σ) : o.wp P a w (KC B n K) Q := by
  unfold semConv at hk
  split at hk
  · rename_i e str hc hx
    have hsd : P.underlying src = some .string ∧ P.underlying dst = some (.slice e) ∧ P.underlying e = some (.int .u8) := by
      unfold cnvT at hc
      split at hc
      · cases hc
      · cases hc
      · split at hc <;> cases hc
      · split at hc
        · injection hc with hc; subst hc; exact ⟨by assumption, by assumption, by assumption⟩
        · cases hc
      · cases hc
    obtain ⟨h1, h2, h3⟩ := hsd
    have hxv := (h.tr x)
    rw [hx] at hxv
    have hrun : (execOp a.eval o).run P w = .ok (.value (.slice (some ⟨w.heap.size, 0, none⟩) str.size (grownCap w str.size 0 e))) (Lib.bytesWorld w e str) := by
      have hr := Lib.run_convert_string_bytes (P := P) w src dst e str h1 h2 h3
      have he : execOp a.eval o = (do pure (.value (← convert src dst (a.eval x)))) := by simp only [execOp, ho]
      rw [he, hxv.c_eq, Sem.run_bind, hr]
      rfl
    have hlen : str.data.toList.length = str.size := by simp
    have hv : VRs w cx (str.data.toList.map encU8).flatten ((Lib.bytesCells w e str).toList.take ((str.data.toList.map encU8).length * 1)) := by
      have e1 : (Lib.bytesCells w e str).toList.take ((str.data.toList.map encU8).length * 1) = str.data.toList.map fun b => Value.int .u8 (b.toNat : Int) := by
        simp only [Lib.bytesCells, Array.toList_append, Array.toList_map, List.length_map, Nat.mul_one]
        rw [List.take_append_of_le_length (by simp)]
        exact List.take_of_length_le (by simp)
      rw [e1]; exact .bytes _
    have hcap := grownCap_ge w str.size 0 e
    obtain ⟨hs, hr⟩ := h.sl_new (T := e) (sz := 1) (cap := grownCap w str.size 0 e) (w' := Lib.bytesWorld w e str) (cs := (Lib.bytesCells w e str).toList) hv (fun e he => by obtain ⟨b, _, rfl⟩ := List.mem_map.1 he; rfl)
      (by rw [List.length_map, hlen]; exact hcap) (Lib.bytesWorld_size w e str) (fun g hg => Lib.bytesWorld_at_old w e str g hg) (Lib.bytesWorld_at_new w e str) rfl rfl ⟨rfl, fun _ => run_drawn _ hrun⟩
    rw [List.length_map, hlen] at hr
    exact wp_new hd hrun hs (.v hr) hk
  · exact hk.elim
  · rename_i hc
    have hsd : ∃ e, P.underlying src = some (.slice e) ∧ P.underlying dst = some .string ∧ P.underlying e = some (.int .u8) := by
      unfold cnvT at hc
      split at hc
      · cases hc
      · cases hc
      · split at hc
        · exact ⟨_, by assumption, by assumption, by assumption⟩
        · cases hc
      · split at hc <;> cases hc
      · cases hc
    obtain ⟨e, hs, hdd, he⟩ := hsd
    cases hE : srcE σ (ev s x) with
    | none => simp [hE] at hk
    | some es =>
      simp only [hE] at hk
      obtain ⟨bs, rfl, hk⟩ := hk
      have hel : ∀ e : List V, e ∈ bs.map encU8 → e.length = 1 := fun e he => by obtain ⟨b, _, rfl⟩ := List.mem_map.1 he; rfl
      have fin : (convert src dst (a.eval x)).run P w = .ok (.string ⟨bs.toArray⟩) w → o.wp P a w (KC B n K) Q := fun hr =>
        wp_val h hd hk ⟨.string ⟨bs.toArray⟩, by
          have he : execOp a.eval o = (do pure (.value (← convert src dst (a.eval x)))) := by simp only [execOp, ho]
          rw [he, Sem.run_bind, hr]; rfl, .v (.c _)⟩
      rcases src_row h.heap (h.tr x) hE hel with ⟨hx, h0⟩ | ⟨⟨a', hx⟩, h0⟩ | ⟨b, off, cap, xs, hx, hcap, hl, hxs, hcell⟩
      · have : bs = [] := by simpa using h0
        subst this
        exact fin (by rw [hx]; exact run_convert_bytes_nil w src e hs he 0 0 dst hdd)
      · have : bs = [] := by simpa using h0
        subst this
        exact fin (by
          rw [hx, run_convert_bytes_string w src dst e (some a') 0 0 hs he hdd]
          have hl : (loadCells a' 0).run P w = .ok #[] w := run_loadCells_list (P := P) w a' [] (fun j v hj => by simp at hj)
          simp [Conv.bytesToString, hl]; rfl)
      · rw [enc_flat] at hxs
        have hxe := VRs.of_consts hxs
        have := run_convert_bytes_arg (P := P) w src e hs he b off (bs.map encU8).length cap (bs.map fun b => (b.toNat : Int)) (by simp) (fun i hi => by
          have hi' : i < bs.length := by simpa using hi
          have := hcell i (.int .u8 (bs[i].toNat : Int)) (by rw [hxe]; simp [hi'])
          rw [this]
          simp [List.getD, hi']) dst hdd
        rw [strOfNums_bytes] at this
        exact fin (by rw [hx]; exact this)
  · obtain ⟨z, hz, hy⟩ := qConv_sound (s := s) (σ := σ) hk
    obtain ⟨y, hr, hv⟩ := hy cx w (a.eval x) h.heap h.box (h.tr x)
    exact wp_val h hd hz ⟨y, by
      have he : execOp a.eval o = (do pure (.value (← convert src dst (a.eval x)))) := by simp only [execOp, ho]
      rw [he, Sem.run_bind, hr]; rfl, hv⟩
theorem rep_get {α : Type} {l : List α} : ∀ {n j : Nat}, j < n * l.length → (List.replicate n l).flatten[j]? = l[j % l.length]?
  | 0, j, h => by simp at h
  | n + 1, j, h => by
    rw [List.replicate_succ, List.flatten_cons]
    by_cases hj : j < l.length
    · rw [List.getElem?_append_left hj, Nat.mod_eq_of_lt hj]
    · rw [List.getElem?_append_right (by omega), rep_get (n := n) (by rw [Nat.succ_mul] at h; omega), Nat.mod_eq_sub_mod (a := j) (by omega)]
def semMake (P : Program) (t : TypeId) (l c : V) (d : Option Nat) (K : St → Hp → Prop) (s : St) (σ : Hp) : Prop :=
  match l, c with
  | .c (.int _ l), .c (.int _ c) => ∃ z, zeroT P (P.elem t) = some z ∧ slT P t = true ∧ szT P (P.elem t) ≠ 0 ∧ z.cells.size = szT P (P.elem t) ∧ oneAll z.cells.toList = true ∧ 0 ≤ l ∧ l ≤ c ∧ c ≤ 9223372036854775807 ∧
      (P.bytesOf (P.elem t) : Int) * c ≤ 281474976710656 ∧
      ∀ k', σ.gr k' = none → K (s.putO d (.gl k')) (σ.setGr k' (some ((P.elem t, szT P (P.elem t)), List.replicate l.toNat (z.cells.toList.map .c))))
  | _, _ => False
theorem semMake_sound {o : Oper} {Q : Exit → Act → World → Prop} {t : TypeId} {l c : Operand} (ho : o.op = .makeSlice t l c) (hd : dOK n o.dst) (h : SR B n cx s σ a w) (hk : semMake P t (ev s l) (ev s c) o.dst K s σ) : o.wp P a w (KC B n K) Q := by
 unfold semMake at hk
 split at hk
 ·rename_i kl l' kc c' hl hc
  obtain ⟨z, hzt, ht, hz, hzs, hone, h0, h1, h2, hb, hk⟩ := hk
  obtain ⟨i, hi, hisz, hib, hiz⟩ := info_of_size hz
  have hlv := h.tr l
  have hcv := h.tr c
  rw [hl] at hlv
  rw [hc] at hcv
  have hr := run_make (P := P) w t (P.elem t) i z (slT_eq ht) hi (by rw [← hiz]; exact hzt) kl kc l' c' h0 h1 (by rw [hib]; exact hb) h2
  have hrun : (execOp a.eval o).run P w = .ok (.value (.slice (some ⟨w.heap.size, 0, none⟩) l'.toNat c'.toNat)) (w.alloc (.cells (madeCells z.cells (c'.toNat * i.size)) (P.elem t))) := by
   simp [execOp, ho, hlv.c_eq, hcv.c_eq, hr]
  have hlen : (List.replicate l'.toNat (z.cells.toList.map V.c)).length = l'.toNat := by simp
  have hel : ∀ e : List V, e ∈ List.replicate l'.toNat (z.cells.toList.map V.c) → e.length = szT P (P.elem t) := fun e he => by
   rw [List.eq_of_mem_replicate he]; simpa using hzs
  have hle : l'.toNat ≤ c'.toNat := by omega
  have hsz : (madeCells z.cells (c'.toNat * i.size)).toList.length = c'.toNat * szT P (P.elem t) := by rw [hisz]; simp [size_madeCells]
  have hmul : l'.toNat * szT P (P.elem t) ≤ c'.toNat * szT P (P.elem t) := Nat.mul_le_mul_right _ hle
  have hv : VRs w cx (List.replicate l'.toNat (z.cells.toList.map V.c)).flatten ((madeCells z.cells (c'.toNat * i.size)).toList.take (l'.toNat * szT P (P.elem t))) := by
   have hget : ∀ j x, ((madeCells z.cells (c'.toNat * i.size)).toList.take (l'.toNat * szT P (P.elem t)))[j]? = some x → j < l'.toNat * szT P (P.elem t) ∧ z.cells.toList[j % szT P (P.elem t)]? = some x := fun j x hx => by
    rw [List.getElem?_take] at hx
    split at hx
    ·rename_i hj
     refine ⟨hj, ?_⟩
     have hm : j % szT P (P.elem t) < z.cells.size := by rw [hzs]; exact Nat.mod_lt _ (by omega)
     have hj' : j < c'.toNat * i.size := by rw [hisz]; omega
     simp [madeCells, hj', hzs] at hx
     simpa [hm] using hx
    ·cases hx
   refine ⟨by rw [flat_len hel, hlen, List.length_take, hsz, Nat.min_eq_left hmul], fun x hx => ?_, fun j v x hv hx => ?_⟩
   ·obtain ⟨j, hj⟩ := List.getElem?_of_mem hx
    exact List.all_eq_true.1 hone x (List.mem_of_getElem? (hget j x hj).2)
   ·obtain ⟨hj, hx2⟩ := hget j x hx
    rw [rep_get (by simp [hzs]; exact hj)] at hv
    simp only [List.length_map, Array.length_toList, hzs, List.getElem?_map, hx2, Option.map_some, Option.some.injEq] at hv
    subst hv; exact .c x
  have hown : (w.alloc (.cells (madeCells z.cells (c'.toNat * i.size)) (P.elem t))).ownsRow 0 (P.elem t) (szT P (P.elem t)) (.slice (some ⟨w.heap.size, 0, none⟩) l'.toNat c'.toNat) (List.replicate l'.toNat (z.cells.toList.map V.c)).length
    ((madeCells z.cells (c'.toNat * i.size)).toList.take (l'.toNat * szT P (P.elem t))) :=
   ⟨by rw [List.length_take, hsz, Nat.min_eq_left hmul, hlen], .inr ⟨w.heap.size, c'.toNat, _, by rw [hlen], by omega, heap_alloc_new w _, by omega, by unfold maxLen; omega, by simpa using hsz, by rw [hlen]⟩⟩
  have hs := h.grown (ok := none) (v := .slice none 0 0) (T := P.elem t) (sz := szT P (P.elem t)) (fun g hg => by simp [Value.ownBlock] at hg) hown (World.grownBy_alloc w _ _) (.inr (.inl rfl)) hv hel (Nat.le_refl _)
  refine wp_new hd hrun hs (.v ?_) (hk cx.nm h.heap.no_nm)
  have := VR.gl (w := w.alloc (.cells (madeCells z.cells (c'.toNat * i.size)) (P.elem t))) (cx := cx.addG (.slice (some ⟨w.heap.size, 0, none⟩) l'.toNat c'.toNat) (szT P (P.elem t))) (k := cx.nm) (Nat.lt_succ_self _) (by rw [Cx.addG_M]; rfl)
  rwa [Cx.addG_M] at this
 ·exact hk.elim
end
end Go.Abs
namespace Go.Abs
open Go
section
variable {P : Program} {T : Tab} {B : Base} {n : Nat} {cx cx' : Cx} {s : St} {σ σ' : Hp} {a : Act} {w w' : World} {K : St → Hp → Prop}
variable [Mode]
def semCut (P : Program) (t : TypeId) (x : V) (hi : Option V) (d : Option Nat) (K : St → Hp → Prop) (s : St) (σ : Hp) : Prop :=
  match dstE σ (P.elem t) (szT P (P.elem t)) x, hi with
  | some (ok, es), some (.c (.int _ h)) => slT P t = true ∧ szT P (P.elem t) ≠ 0 ∧ 0 ≤ h ∧ h ≤ es.length ∧
      ∀ k', (σ.delO ok).gr k' = none → K (s.putO d (.gl k')) ((σ.delO ok).setGr k' (some ((P.elem t, szT P (P.elem t)), es.take h.toNat)))
  | _, _ => False
theorem flatten_take : ∀ {es : List (List V)} {sz i : Nat}, (∀ e : List V, e ∈ es → e.length = sz) → (es.take i).flatten = es.flatten.take (i * sz)
  | [], sz, i, _ => by simp
  | e :: es, sz, 0, _ => by simp
  | e :: es, sz, i + 1, hl => by
    have he := hl e List.mem_cons_self
    rw [List.take_succ_cons, List.flatten_cons, List.flatten_cons, flatten_take (fun e' h' => hl e' (List.mem_cons_of_mem _ h')), List.take_append, List.take_of_length_le (l := e) (by rw [he, Nat.succ_mul]; omega), he,
      show (i + 1) * sz - sz = i * sz by rw [Nat.succ_mul]; omega]
theorem semCut_sound {o : Oper} {Q : Exit → Act → World → Prop} {t : TypeId} {x : Operand} {hi : Option Operand} (ho : o.op = .slice t x none hi none) (hd : dOK n o.dst) (h : SR B n cx s σ a w)
    (hk : semCut P t (ev s x) (hi.map (ev s)) o.dst K s σ) : o.wp P a w (KC B n K) Q := by
  unfold semCut at hk
  cases hdE : dstE σ (P.elem t) (szT P (P.elem t)) (ev s x) with
  | none => simp [hdE] at hk
  | some de =>
    obtain ⟨ok, es⟩ := de
    cases hi with
    | none => simp [hdE] at hk
    | some hi =>
      simp only [hdE, Option.map_some] at hk
      split at hk
      · rename_i ok' es' kh hh he1 he2
        injection he1 with he1; injection he1 with e1 e2; subst e1; subst e2
        injection he2 with he2
        obtain ⟨ht, hz, h0, h1, hk⟩ := hk
        obtain ⟨xs, hown, hxs, hel, hone, hblk⟩ := dst_row h.heap (h.tr x) hdE
        have hhv := h.tr hi
        rw [he2] at hhv
        have hhe := hhv.c_eq
        have key : ∀ b cap, a.eval x = .slice b es.length cap → (b = none → cap = 0) → es.length ≤ cap → (execOp a.eval o).run P w = .ok (.value (.slice b hh.toNat cap)) w := fun b cap hx hb hc => by
          have hbd : (Instr.sliceBounds true es.length cap none (some (a.eval hi)) none).run P w = .ok (0, hh.toNat, cap) w := by
            rw [hhe]
            simp [Instr.sliceBounds, run_sliceBound, h0, show hh ≤ (cap : Int) by omega]
          simp only [execOp, ho, Option.map_none, Option.map_some, hx, Sem.run_bind]
          rw [run_sliceAt_slice w t _ _ _ _ (slT_eq ht), run_slice_any w t _ _ _ (slT_eq ht), hbd]
          simp only [Result.andThen_ok, run_sizeOf rfl hz, sliced]
          cases b with
          | none =>
            have := hb rfl
            subst this
            simp
          | some g =>
            by_cases hc0 : cap = 0
            · simp [hc0]
            · simp [hc0, Addr.add]
        have fin : ∀ v', (execOp a.eval o).run P w = .ok (.value v') w → v'.oneCell' = true → v'.ownBlock = (a.eval x).ownBlock → w.ownsRow 0 (P.elem t) (szT P (P.elem t)) v' (es.take hh.toNat).length (xs.take (hh.toNat * szT P (P.elem t))) → o.wp P a w (KC B n K) Q := fun v' hrun hsome hob hown' => by
          have hs := h.grown (ok := ok) (T := P.elem t) (sz := szT P (P.elem t)) (es' := es.take hh.toNat) hblk hown' (World.grownBy.refl w _) (.inl hob) (by rw [flatten_take hel]; exact hxs.take _)
            (fun e he => hel e (List.mem_of_mem_take he)) (Nat.le_refl _)
          have hvr : VR w (cx.addG v' (szT P (P.elem t))) (.gl cx.nm) v' := by
            have := VR.gl (w := w) (cx := cx.addG v' (szT P (P.elem t))) (k := cx.nm) (Nat.lt_succ_self _) (by rw [Cx.addG_M]; exact hsome)
            rwa [Cx.addG_M] at this
          exact wp_new hd hrun hs (.v hvr) (hk cx.nm (delO_new ok h.heap))
        have hlt : (es.take hh.toNat).length = hh.toNat := by simp; omega
        rcases hown.2 with ⟨hx, hn⟩ | ⟨g, cap, cur, hx, hg0, hbl, hcap, hmx, hcs, htk⟩
        · have e0 : es = [] := List.eq_nil_of_length_eq_zero hn
          subst e0
          have eh : hh.toNat = 0 := by simp at h1; omega
          have hr := key none 0 (by rw [hx]; rfl) (fun _ => rfl) (by simp)
          rw [eh] at hr
          refine fin _ hr rfl (by rw [hx]) ?_
          have := World.ownsRow_nil w 0 (P.elem t) (szT P (P.elem t))
          simpa [eh] using this
        · have hr := key (some ⟨g, 0, none⟩) cap hx (fun e => by cases e) hcap
          refine fin _ hr rfl (by rw [hx]; rfl) ⟨?_, .inr ⟨g, cap, cur, by rw [hlt], hg0, hbl, by rw [hlt]; omega, hmx, hcs, ?_⟩⟩
          · rw [hlt, List.length_take, hown.1, Nat.min_eq_left (Nat.mul_le_mul_right _ (by omega))]
          · rw [hlt, ← htk, List.take_take, Nat.min_eq_left (Nat.mul_le_mul_right _ (by omega))]
      · exact hk.elim
def semAppendN (P : Program) (t : TypeId) (x y : V) (d : Option Nat) (K : St → Hp → Prop) (s : St) (σ : Hp) : Prop :=
  match x, y with
  | .c (.slice none 0 0), .c (.int _ c) => ∃ z, zeroT P (P.elem t) = some z ∧ slT P t = true ∧ szT P (P.elem t) ≠ 0 ∧ z.cells.size = szT P (P.elem t) ∧ oneAll z.cells.toList = true ∧ 0 < c ∧ c ≤ maxLen ∧
      c * P.bytesOf (P.elem t) ≤ reach ∧
      ∀ k', σ.gr k' = none → K (s.putO d (.gl k')) (σ.setGr k' (some ((P.elem t, szT P (P.elem t)), List.replicate c.toNat (z.cells.toList.map .c))))
  | _, _ => False
theorem made_VRs {z : Array Value} {sz l : Nat} (hone : oneAll z.toList = true) (hzs : z.size = sz) (hz : sz ≠ 0) : VRs w cx (List.replicate l (z.toList.map V.c)).flatten ((madeCells z (l * sz)).toList) := by
 have hel : ∀ e : List V, e ∈ List.replicate l (z.toList.map V.c) → e.length = sz := fun e he => by
  rw [List.eq_of_mem_replicate he]; simpa using hzs
 have hget : ∀ j x, (madeCells z (l * sz)).toList[j]? = some x → j < l * sz ∧ z.toList[j % sz]? = some x := fun j x hx => by
  have hj : j < l * sz := by
   have := (List.getElem?_eq_some_iff.1 hx).1
   simpa [size_madeCells] using this
  refine ⟨hj, ?_⟩
  have hm : j % sz < z.size := by rw [hzs]; exact Nat.mod_lt _ (by omega)
  simp [madeCells, hj, hzs] at hx
  simpa [hm] using hx
 refine ⟨by rw [flat_len hel]; simp [size_madeCells], fun x hx => ?_, fun j v x hv hx => ?_⟩
 ·obtain ⟨j, hj⟩ := List.getElem?_of_mem hx
  exact List.all_eq_true.1 hone x (List.mem_of_getElem? (hget j x hj).2)
 ·obtain ⟨hj, hx2⟩ := hget j x hx
  rw [rep_get (by simp [hzs]; exact hj)] at hv
  simp only [List.length_map, Array.length_toList, hzs, List.getElem?_map, hx2, Option.map_some, Option.some.injEq] at hv
  subst hv; exact .c x
theorem zeroCells_eq (z : Array Value) (k : Nat) : Builtin.zeroCells z k = madeCells z (k * z.size) := rfl
theorem semAppendN_sound {o : Oper} {Q : Exit → Act → World → Prop} {t t' : TypeId} {ki : IntKind} {x y : Operand} (hti : P.underlying t' = some (.int ki)) (ho : o.op = .call { callee := .builtin .append, args := #[x, y], argTypes := #[t, t'] }) (hd : dOK n o.dst)
  (h : SR B n cx s σ a w) (hk : semAppendN P t (ev s x) (ev s y) o.dst K s σ) : o.wp P a w (KC B n K) Q := by
 unfold semAppendN at hk
 split at hk
 ·rename_i kc c hx hy
  obtain ⟨z, hzt, ht, hz, hzs, hone, h0, hmax, hby, hk⟩ := hk
  obtain ⟨i, hi, hisz, hib, hiz⟩ := info_of_size hz
  have hxv := h.tr x
  have hyv := h.tr y
  rw [hx] at hxv
  rw [hy] at hyv
  obtain ⟨k, rfl⟩ : ∃ k : Nat, c = (k : Int) := ⟨c.toNat, by omega⟩
  have hk0 : 0 < k := by omega
  have hby' : k * i.bytes ≤ 140737488355328 := by rw [hib]; unfold reach at hby; exact_mod_cast hby
  have hmax' : k ≤ maxLen := by exact_mod_cast hmax
  have hr := Lib.run_append_grow_zeros (P := P) w t t' o.type (P.elem t) i z kc ki (slT_eq ht) hti hi (by rw [← hiz]; exact hzt) none 0 0 [] (run_firstCells_none w.drew i.size 0 0 0) k hk0 (by omega) (by omega)
   (by unfold maxLen at hmax'; omega) (by omega) (growslice_fits (by omega) (by rw [Nat.zero_add]; exact hby'))
  simp only [Nat.zero_add] at hr
  generalize hG : grownCap w k 0 (P.elem t) = G at hr
  have hGk : k ≤ G := by have := grownCap_ge w k 0 (P.elem t); omega
  have hGm : G ≤ maxLen := by have := grownCap_le_maxLen w k 0 (P.elem t) (by omega); omega
  have hrun : (execOp a.eval o).run P w = .ok (.value (.slice (some ⟨w.heap.size, 0, none⟩) k G)) (w.drew.alloc (.cells (#[] ++ Builtin.zeroCells z.cells k ++ Builtin.zeroCells z.cells (G - k)) (P.elem t))) := by
   simp [execOp, ho, resolve, invoke, builtin, hxv.c_eq, hyv.c_eq, hr]
  have hlen : (List.replicate k (z.cells.toList.map V.c)).length = k := by simp
  have htake : (#[] ++ Builtin.zeroCells z.cells k ++ Builtin.zeroCells z.cells (G - k)).toList.take (k * szT P (P.elem t)) = (madeCells z.cells (k * szT P (P.elem t))).toList := by
   simp only [zeroCells_eq, hzs, Array.toList_append, List.nil_append]
   rw [List.take_append_of_le_length (by simp [size_madeCells])]
   exact List.take_of_length_le (by simp [size_madeCells])
  have hown : (w.drew.alloc (.cells (#[] ++ Builtin.zeroCells z.cells k ++ Builtin.zeroCells z.cells (G - k)) (P.elem t))).ownsRow 0 (P.elem t) (szT P (P.elem t)) (.slice (some ⟨w.heap.size, 0, none⟩) k G) (List.replicate k (z.cells.toList.map V.c)).length
    ((madeCells z.cells (k * szT P (P.elem t))).toList) :=
   ⟨by rw [hlen]; simp [size_madeCells], .inr ⟨w.heap.size, G, _, by rw [hlen], by omega, heap_alloc_new w.drew _, by omega, hGm, by
    simp only [zeroCells_eq, hzs, Array.size_append, size_madeCells, List.size_toArray, List.length_nil, Nat.zero_add]
    rw [← Nat.add_mul]; congr 1; omega, by rw [hlen]; exact htake⟩⟩
  have hs := h.drew.grown (ok := none) (v := .slice none 0 0) (T := P.elem t) (sz := szT P (P.elem t)) (es' := List.replicate k (z.cells.toList.map V.c)) (fun g hg => by simp [Value.ownBlock] at hg) hown (World.grownBy_alloc w.drew _ _) (.inr (.inl rfl))
   (made_VRs hone hzs hz) (fun e he => by rw [List.eq_of_mem_replicate he]; simpa using hzs) (Nat.le_refl _)
  refine wp_new hd hrun hs (.v ?_) (hk cx.nm h.heap.no_nm)
  have := VR.gl (w := w.drew.alloc (.cells (#[] ++ Builtin.zeroCells z.cells k ++ Builtin.zeroCells z.cells (G - k)) (P.elem t))) (cx := cx.addG (.slice (some ⟨w.heap.size, 0, none⟩) k G) (szT P (P.elem t))) (k := cx.nm) (Nat.lt_succ_self _) (by rw [Cx.addG_M]; rfl)
  rwa [Cx.addG_M] at this
 ·exact hk.elim
def semView (P : Program) (σ : Hp) (t : TypeId) (x : V) (lo hi : Option V) (K : V → Prop) : Prop :=
  match x, lo with
  | .gl g, some (.c (.int _ l)) => match σ.gr g with
    | some (_, es) => match hiV es.length hi with
      | some h => slT P t = true ∧ szT P (P.elem t) ≠ 0 ∧ 0 < es.length ∧ 0 ≤ l ∧ l ≤ h ∧ h ≤ es.length ∧ (∀ e : List V, e ∈ es → e.length = szT P (P.elem t)) ∧ K (.gv g l.toNat (h.toNat - l.toNat))
      | none => False
    | none => False
  | _, _ => False
theorem semView_sound {t : TypeId} {x : V} {lo hi : Option V} {k : V → Prop} (h : semView P σ t x lo hi k) :
    ∃ z, k z ∧ ∀ cx w p lo' hi', HR cx σ w → TR w cx x p → TRo w cx lo lo' → TRo w cx hi hi' → ∃ y, (Instr.sliceAt t p lo' hi' none).run P w = .ok y w ∧ TR w cx z y := by
  unfold semView at h
  split at h
  · rename_i g kl l
    cases hg : σ.gr g with
    | none => simp [hg] at h
    | some x =>
      obtain ⟨T, es⟩ := x
      simp only [hg] at h
      cases hh : hiV es.length hi with
      | none => simp [hh] at h
      | some h' =>
        simp only [hh] at h
        obtain ⟨ht, hz, hp, h0, h1, h2, hes, hk⟩ := h
        refine ⟨_, hk, fun cx w p lo' hi' hH hp' tl th => ?_⟩
        obtain ⟨hkn, _, hel, xs, hown, _⟩ := hH.gr g T es hg
        obtain ⟨b, cap, cur, hM, hb, hbl, hcap, hcs⟩ := ownsRow_form hown hp
        have hsz : szT P (P.elem t) = cx.Z g := by
          rw [← hes es[0] (List.getElem_mem _)]; exact hel _ (List.getElem_mem _)
        cases hp' with
        | v hp' =>
          cases hp' with
          | gl _ _ =>
            refine ⟨sliced (some ⟨b, 0, none⟩) l.toNat h'.toNat cap (szT P (P.elem t)), ?_, ?_⟩
            · have hbd := run_bounds (P := P) (w := w) (w' := w) (isS := true) (n := es.length) (cap := cap) (lo := some (.c (.int kl l))) rfl hh h0 h1 (by omega) cx tl th
              rw [hM, run_sliceAt_slice w t _ _ _ _ (slT_eq ht), run_slice_any w t _ _ _ (slT_eq ht), hbd]
              simp [run_sizeOf rfl hz]
            · unfold sliced
              by_cases hc : cap = l.toNat
              · rw [if_pos hc]
                exact .v (.gv hkn (fun hn => by omega) (by omega))
              · rw [if_neg hc]
                exact .v (.gv hkn (fun hn => ⟨b, hb, by simp [Addr.add, hsz]; omega⟩) (by omega))
  · exact h.elim
theorem flatten_drop : ∀ {es : List (List V)} {sz i : Nat}, (∀ e : List V, e ∈ es → e.length = sz) → (es.drop i).flatten = es.flatten.drop (i * sz)
  | [], sz, i, _ => by simp
  | e :: es, sz, 0, _ => by simp
  | e :: es, sz, i + 1, hl => by
    have he := hl e List.mem_cons_self
    rw [List.drop_succ_cons, List.flatten_cons, flatten_drop (fun e' h' => hl e' (List.mem_cons_of_mem _ h')), List.drop_append, List.drop_of_length_le (l := e) (by rw [he, Nat.succ_mul]; omega), he,
      show (i + 1) * sz - sz = i * sz by rw [Nat.succ_mul]; omega, List.nil_append]
theorem SR.grPart (h : SR B n cx s σ a w) {k g o cap : Nat} {T : TypeId × Nat} {es mid : List (List V)} {cur : Array Value} {ys : List Value} (hl : σ.gr k = some (T, es)) (hmid : ∀ e : List V, e ∈ mid → e.length = cx.Z k) (ho : o + mid.length ≤ es.length)
  (hv : VRs w cx mid.flatten ys) (hM : cx.M k = .slice (some ⟨g, 0, none⟩) es.length cap) (hbl : w.heap[g]? = some (.cells cur T.1 (0, 0))) :
  SR B n cx s (σ.setGr k (some (T, es.take o ++ mid ++ es.drop (o + mid.length)))) a (w.setRow g (cur.toList.take (o * cx.Z k) ++ ys ++ cur.toList.drop (o * cx.Z k + ys.length)).toArray) := by
 obtain ⟨hkn, _, hel, xs, hown, hxs⟩ := h.heap.gr k T es hl
 have hMb : (cx.M k).ownBlock = some g := by rw [hM]; rfl
 have hyl : ys.length = mid.length * cx.Z k := by rw [← hv.1]; exact flat_len hmid
 have hxl : xs.length = es.length * cx.Z k := hown.1
 have hfit : o * cx.Z k + ys.length ≤ es.length * cx.Z k := by
  rw [hyl, ← Nat.add_mul]; exact Nat.mul_le_mul_right _ ho
 have himm := setRow_imm (cs := (cur.toList.take (o * cx.Z k) ++ ys ++ cur.toList.drop (o * cx.Z k + ys.length)).toArray) h (g := g) (.inl (.inr ⟨k, _, hl, hMb⟩))
 rcases hown.2 with ⟨e1, e2⟩ | ⟨g2, cap2, cur2, e1, e2, e3, hcap, hmx, hcs, htk⟩
 ·rw [hM] at e1; cases e1
 ·rw [hM] at e1
  injection e1 with e1 _ e4
  injection e1 with e1
  injection e1 with e1
  subst e1; subst e4
  rw [hbl] at e3
  injection e3 with e3
  injection e3 with e3
  subst e3
  have hcl : cur.toList.length = cap * cx.Z k := by simpa using hcs
  have hcapsz : es.length * cx.Z k ≤ cap * cx.Z k := Nat.mul_le_mul_right _ hcap
  have hlen : (es.take o ++ mid ++ es.drop (o + mid.length)).length = es.length := by simp; omega
  have hfl : (es.take o ++ mid ++ es.drop (o + mid.length)).flatten = splice es.flatten (o * cx.Z k) mid.flatten := by
   rw [List.flatten_append, List.flatten_append, flatten_take hel, flatten_drop hel, splice, flat_len hmid, Nat.add_mul]
  have hown' : (w.setRow g (cur.toList.take (o * cx.Z k) ++ ys ++ cur.toList.drop (o * cx.Z k + ys.length)).toArray).ownsRow 0 T.1 (cx.Z k) (cx.M k) (es.take o ++ mid ++ es.drop (o + mid.length)).length
    (xs.take (o * cx.Z k) ++ ys ++ xs.drop (o * cx.Z k + ys.length)) := by
   rw [hlen]
   refine ⟨by rw [spl_len (by omega)]; exact hxl, .inr ⟨g, cap, _, hM, by omega, setRow_heap w g _ _ T.1 _ hbl, hcap, hmx, ?_, ?_⟩⟩
   ·rw [List.size_toArray, spl_len (by omega)]; exact hcl
   ·rw [← htk]; exact spl_take (by omega) (by omega)
  refine h.heapstep (.refl _) rfl (fun _ hg => .inl hg) (fun g2 hg2 => ?_) rfl rfl ⟨rfl, fun _ => Nat.le_refl _⟩ (by simp) (fun g2 hlt hno => setRow_other w g g2 _ (fun e => hno (e ▸ .inr ⟨k, _, hl, hMb⟩)))
   (h.heap.setGr_same hl hMb hown' ?_ ?_ (by simp) (fun g2 _ hne => setRow_other w g g2 _ hne)) (fun k2 x hx => ?_) (fun _ x hk => .inl ⟨x, hk⟩)
  ·rcases hg2 with ⟨c, hc'⟩ | ⟨k2, x, hk2, hb'⟩
   ·exact .inl (.inl ⟨c, hc'⟩)
   ·by_cases e : k2 = k
    ·exact .inl (.inr ⟨k, _, hl, e ▸ hb'⟩)
    ·simp only [Hp.setGr, e, if_false] at hk2; exact .inl (.inr ⟨k2, x, hk2, hb'⟩)
  ·rw [hfl]
   exact (hxs.splice (off := o * cx.Z k) hv).keep himm (.refl _)
  ·intro e he'
   rcases List.mem_append.1 he' with h1 | h1
   ·rcases List.mem_append.1 h1 with h1 | h1
    ·exact hel e (List.mem_of_mem_take h1)
    ·exact hmid e h1
   ·exact hel e (List.mem_of_mem_drop h1)
  ·by_cases e : k2 = k
   ·exact .inl ⟨_, e ▸ hl⟩
   ·simp only [Hp.setGr, e, if_false] at hx; exact .inl ⟨x, hx⟩
def semClear (P : Program) (t : TypeId) (x : V) (d : Option Nat) (K : St → Hp → Prop) (s : St) (σ : Hp) : Prop :=
  match x with
  | .gv k o m => match σ.gr k with
    | some (T, es) => ∃ z, zeroT P (P.elem t) = some z ∧ slT P t = true ∧ szT P (P.elem t) ≠ 0 ∧ z.cells.size = szT P (P.elem t) ∧ oneAll z.cells.toList = true ∧ 0 < es.length ∧ o + m ≤ es.length ∧ (∀ e : List V, e ∈ es → e.length = szT P (P.elem t)) ∧
      K (s.putO d (.c (.tuple #[]))) (σ.setGr k (some (T, es.take o ++ List.replicate m (z.cells.toList.map .c) ++ es.drop (o + m))))
    | none => False
  | _ => False
theorem semClear_sound {o : Oper} {Q : Exit → Act → World → Prop} {t : TypeId} {x : Operand} (ho : o.op = .call { callee := .builtin .clear, args := #[x], argTypes := #[t] }) (hd : dOK n o.dst)
    (h : SR B n cx s σ a w) (hk : semClear P t (ev s x) o.dst K s σ) : o.wp P a w (KC B n K) Q := by
  unfold semClear at hk
  split at hk
  · rename_i k off m hx
    cases hl : σ.gr k with
    | none => simp [hl] at hk
    | some te =>
      obtain ⟨T, es⟩ := te
      simp only [hl] at hk
      obtain ⟨z, hzt, ht, hz, hzs, hone, hpos, hom, hes, hk⟩ := hk
      have hxv := h.tr x
      rw [hx] at hxv
      obtain ⟨hkn, _, hel, xs, hown, hxs⟩ := h.heap.gr k T es hl
      obtain ⟨b, cap, cur, hM, hb, hbl, hcap, hcs⟩ := ownsRow_form hown hpos
      have hsz : szT P (P.elem t) = cx.Z k := by
        rw [← hes es[0] (List.getElem_mem _)]; exact hel _ (List.getElem_mem _)
      generalize hax : a.eval x = p at hxv
      cases hxv with
      | v hxv =>
        cases hxv with
        | @gv _ _ _ c ad _ hg hn =>
          cases m with
          | zero =>
            have hrun : (execOp a.eval o).run P w = .ok (.value (.tuple #[])) w := by
              simp [execOp, ho, resolve, invoke, builtin, Builtin.clear_, hax, run_underlying (slT_eq ht)]
            have e : σ.setGr k (some (T, es.take off ++ List.replicate 0 (z.cells.toList.map V.c) ++ es.drop (off + 0))) = σ := by
              simp only [List.replicate_zero, List.append_nil, Nat.add_zero, List.take_append_drop]
              cases σ
              simp only [Hp.setGr, Hp.mk.injEq, true_and]
              funext j
              by_cases e : j = k
              · subst e; simpa using hl.symm
              · simp [e]
            rw [e] at hk
            exact wp_val h hd hk ⟨_, hrun, .v (.c _)⟩
          | succ m =>
            obtain ⟨g, hg2, rfl⟩ := hg (Nat.succ_pos _)
            have eg : g = b := by rw [hb] at hg2; injection hg2 with hg2; exact hg2.symm
            subst eg
            have hcl : cur.toList.length = cap * cx.Z k := by simpa using hcs
            have hv := made_VRs (w := w) (cx := cx) (z := z.cells) (l := m + 1) hone hzs hz
            have hmid : ∀ e : List V, e ∈ List.replicate (m + 1) (z.cells.toList.map V.c) → e.length = cx.Z k := fun e he => by
              rw [List.eq_of_mem_replicate he, ← hsz, ← hzs]; simp
            have hyl : ((madeCells z.cells ((m + 1) * szT P (P.elem t))).toList).length = (m + 1) * cx.Z k := by simp [size_madeCells, hsz]
            have hfit : off * cx.Z k + (m + 1) * cx.Z k ≤ cap * cx.Z k := by
              rw [← Nat.add_mul]; exact Nat.mul_le_mul_right _ (by omega)
            have hst := run_storeCells_at P g (off * cx.Z k) T.1 (madeCells z.cells ((m + 1) * szT P (P.elem t))).toList 0 cur w hbl (by rw [hyl, ← Array.length_toList, hcl]; omega) hv.2.1
            simp only [Nat.add_zero] at hst
            have hzc : Builtin.zeroCells z.cells (m + 1) = madeCells z.cells ((m + 1) * szT P (P.elem t)) := by rw [zeroCells_eq, hzs]
            have hrun : (execOp a.eval o).run P w = .ok (.value (.tuple #[])) (w.setRow g (cur.toList.take (off * cx.Z k) ++ (madeCells z.cells ((m + 1) * szT P (P.elem t))).toList ++ cur.toList.drop (off * cx.Z k + (madeCells z.cells ((m + 1) * szT P (P.elem t))).toList.length)).toArray) := by
              simp [execOp, ho, resolve, invoke, builtin, Builtin.clear_, hax, run_underlying (slT_eq ht), zeroT_run hzt, hzc, hst]
            have hs := h.grPart (o := off) hl hmid (by simp; omega) hv hM hbl
            rw [List.length_replicate] at hs
            exact wp_new hd hrun hs (.v (.c _)) hk
  · exact hk.elim
end
end Go.Abs
namespace Go.Abs
open Go
section
variable {P : Program} {T : Tab} {B : Base} {n : Nat} {cx cx' : Cx} {s : St} {σ σ' : Hp} {a : Act} {w w' : World} {K : St → Hp → Prop}
variable [Mode]
def nilCmp (op : BinOp) (es : List (List V)) (k : Bool → Prop) : Prop :=
  match op with
  | .eql => (es ≠ [] → k false) ∧ (es = [] → ∀ b, k b)
  | .neq => (es ≠ [] → k true) ∧ (es = [] → ∀ b, k b)
  | _ => False
def isNilC : Operand → Bool
  | .const (.slice none 0 0) => true
  | _ => false
def semBin (P : Program) (T : Tab) (op : BinOp) (t : TypeId) (yo : Operand) (x y : V) (d : Option Nat) (K : St → Hp → Prop) (s : St) (σ : Hp) : Prop :=
  match isNilC yo, srcE σ x with
  | true, some es => slT P t = true ∧ nilCmp op es (fun b => K (s.putO d (.c (.bool b))) σ)
  | _, _ => qBin P T op t (fun v => K (s.putO d v) σ) x y
theorem run_eq_nil_slice {t : TypeId} (h : slT P t = true) (b : Option Addr) (m c : Nat) (w : World) : (Op.equal t (.slice b m c) (.slice none 0 0)).run P w = .ok b.isNone w := by
 have hd : ∀ d : Nat, (Op.equalIn (d + 1) t (.slice b m c) (.slice none 0 0)).run P w = .ok b.isNone w := fun d => by
  cases b <;> simp [Op.equalIn, run_underlying (slT_eq h)]
 exact hd 9999
theorem src_form {v : V} {x : Value} {es : List (List V)} (hH : HR cx σ w) (hx : TR w cx v x) (h : srcE σ v = some es) : ∃ b m c, x = .slice b m c ∧ (es ≠ [] → b.isNone = false) := by
  unfold srcE at h
  split at h
  · injection h with h; subst h
    cases hx with
    | v hx =>
      cases hx with
      | nils => exact ⟨_, _, _, rfl, fun h => absurd rfl h⟩
      | nile a => exact ⟨_, _, _, rfl, fun h => absurd rfl h⟩
      | sl f hI hcap hlen hc hr h1 => exact ⟨_, _, _, rfl, fun _ => rfl⟩
  · injection h with h; subst h
    exact ⟨_, _, _, hx.c_eq, fun h => absurd rfl h⟩
  · rename_i k
    cases hk : σ.gr k with
    | none => simp [hk] at h
    | some te =>
      obtain ⟨T, es'⟩ := te
      simp [hk] at h; subst h
      obtain ⟨hkn, _, hel', xs, hown, hxs⟩ := hH.gr k T _ hk
      cases hx with
      | v hx =>
        cases hx with
        | gl _ _ =>
          rcases hown.2 with ⟨hM, h0⟩ | ⟨g, cap, cur, hM, _⟩
          · exact ⟨_, _, _, hM, fun h => absurd (List.eq_nil_of_length_eq_zero h0) h⟩
          · exact ⟨_, _, _, hM, fun _ => rfl⟩
  · cases h
theorem semBin_sound (hT : T.ok P) {o : Oper} {Q : Exit → Act → World → Prop} {op : BinOp} {t t' : TypeId} {x y : Operand} (ho : o.op = .binOp op t x y t') (hd : dOK n o.dst) (h : SR B n cx s σ a w)
  (hk : semBin P T op t y (ev s x) (ev s y) o.dst K s σ) : o.wp P a w (KC B n K) Q := by
 unfold semBin at hk
 split at hk
 ·rename_i es hy hs
  obtain ⟨ht, hk⟩ := hk
  have hyc : y = .const (.slice none 0 0) := by
   unfold isNilC at hy
   split at hy
   ·rfl
   ·cases hy
  obtain ⟨b, m, c, hx, hne⟩ := src_form h.heap (h.tr x) hs
  have hyv : a.eval y = .slice none 0 0 := by rw [hyc]; rfl
  have run1 : op = .eql → (execOp a.eval o).run P w = .ok (.value (.bool b.isNone)) w := fun e => by
   subst e
   have he : execOp a.eval o = (do pure (.value (← (do eqGuard .eql t x y (a.eval x) (a.eval y); binOp .eql t (a.eval x) (a.eval y))))) := by simp only [execOp, ho]
   rw [he, hx, hyv]
   simp only [eqGuard_at_slice, binOp, Sem.run_bind, Sem.run_pure, Result.andThen_ok, run_eq_nil_slice ht]
  have run2 : op = .neq → (execOp a.eval o).run P w = .ok (.value (.bool (!b.isNone))) w := fun e => by
   subst e
   have he : execOp a.eval o = (do pure (.value (← (do eqGuard .neq t x y (a.eval x) (a.eval y); binOp .neq t (a.eval x) (a.eval y))))) := by simp only [execOp, ho]
   rw [he, hx, hyv]
   simp only [eqGuard_at_slice, binOp, Sem.run_bind, Sem.run_pure, Result.andThen_ok, run_eq_nil_slice ht]
  unfold nilCmp at hk
  by_cases hes : es = []
  ·cases op <;> simp only at hk <;> first
    | exact hk.elim
    | exact wp_val h hd (hk.2 hes _) ⟨_, run1 rfl, .v (.c _)⟩
    | exact wp_val h hd (hk.2 hes _) ⟨_, run2 rfl, .v (.c _)⟩
  ·have hb := hne hes
   rw [hb] at run1 run2
   cases op <;> simp only at hk <;> first
    | exact hk.elim
    | exact wp_val h hd (hk.1 hes) ⟨_, run1 rfl, .v (.c _)⟩
    | exact wp_val h hd (hk.1 hes) ⟨_, run2 rfl, .v (.c _)⟩
 ·obtain ⟨z, hz, hy⟩ := qBin_sound hT (s := s) (σ := σ) (x := x) (y := y) hk
  obtain ⟨v, hr, hv⟩ := hy cx w (a.eval x) (a.eval y) h.heap h.box (h.tr x) (h.tr y)
  have he : execOp a.eval o = (do pure (.value (← bfull op t x y (a.eval x) (a.eval y)))) := by simp only [execOp, ho, bfull]
  exact wp_val h hd hz ⟨v, by rw [he, Sem.run_bind, hr]; rfl, hv⟩
def okV : V → Bool
  | .lp _ _ => false
  | .junk => false
  | _ => true
theorem TR.ok {v : V} {x : Value} (h : TR w cx v x) (hv : okV v = true) : VR w cx v x := by
 cases h with
 | v h => exact h
 | lp => cases hv
 | junk => cases hv
def wk1 : V → V
  | .c (.slice none 0 0) => .sl []
  | v => v
def wk : V → V
  | .agg vs => .agg (vs.map wk1)
  | v => wk1 v
theorem wk1_VR {v : V} {x : Value} (h : VR w cx v x) : VR w cx (wk1 v) x := by
 unfold wk1
 split
 ·cases h; exact .nils
 ·exact h
theorem wk_VR {v : V} {x : Value} (h : VR w cx v x) : VR w cx (wk v) x := by
  unfold wk
  split
  · cases h with
    | agg h1 hn hh =>
      refine .agg h1 (by simpa using hn) (fun i v x hv hx => ?_)
      simp only [List.getElem?_map, Option.map_eq_some_iff] at hv
      obtain ⟨u, hu, rfl⟩ := hv
      exact wk1_VR (hh i u x hu hx)
  · exact wk1_VR h
def semCall (P : Program) (raw : FuncId → Bool) (c : Call) (d : Option Nat) (K : St → Hp → Prop) (s : St) (σ : Hp) : Prop :=
  match c.callee, c.args.toList, c.argTypes.toList with
  | .builtin .len, [x], [t] => qLen P σ t (fun v => K (s.putO d v) σ) (ev s x)
  | .builtin .append, [x, y], [t, t'] => if t' = t then semAppend P t (ev s x) (ev s y) d K s σ else ∃ ki, P.underlying t' = some (.int ki) ∧ semAppendN P t (ev s x) (ev s y) d K s σ
  | .builtin .clear, [x], [t] => semClear P t (ev s x) d K s σ
  | .builtin .cap, [x], [t] => match ev s x with
    | .c (.slice none 0 0) => slT P t = true ∧ K (s.putO d (.c (.int .i64 0))) σ
    | _ => False
  | .builtin .min, [x, y], _ => match ev s x, ev s y with
    | .c (.int k a), .c (.int _ b) => K (s.putO d (.c (.int k (if b < a then b else a)))) σ
    | _, _ => False
  | .builtin .max, [x, y], _ => match ev s x, ev s y with
    | .c (.int k a), .c (.int _ b) => K (s.putO d (.c (.int k (if a < b then b else a)))) σ
    | _, _ => False
  | .value f, xs, _ => match ev s f with
    | .fn (.func g) fs cs => (fs ++ xs.map (ev s) ++ cs).all okV = true ∧ ACalls P g (if raw g then fs ++ xs.map (ev s) ++ cs else (fs ++ xs.map (ev s) ++ cs).map wk) σ (fun v σ' => K (s.putO d v) σ')
    | _ => False
  | _, _, _ => False
theorem VAs.wk {vs : List V} {xs : List Value} (h : VAs w cx vs xs) : VAs w cx (vs.map Abs.wk) xs :=
 ⟨by simpa using h.1, fun i v x hv hx => by
  simp only [List.getElem?_map, Option.map_eq_some_iff] at hv
  obtain ⟨u, hu, rfl⟩ := hv
  exact wk_VR (h.2 i u x hu hx)⟩
theorem arr1 {α : Type} {a : Array α} {l : List α} (h : a.toList = l) : a = ⟨l⟩ := by cases a; simpa using h
theorem semCall_sound {raw : FuncId → Bool} {o : Oper} {Q : Exit → Act → World → Prop} {c : Call} (ho : o.op = .call c) (hd : dOK n o.dst) (h : SR B n cx s σ a w) (hk : semCall P raw c o.dst K s σ) : o.wp P a w (KC B n K) Q := by
  unfold semCall at hk
  obtain ⟨callee, args, argTypes⟩ := c
  split at hk
  · rename_i x t h1 h2 h3
    simp only at h1 h2 h3
    have e2 := arr1 h2
    have e3 := arr1 h3
    subst h1; subst e2; subst e3
    obtain ⟨z, hz, hy⟩ := qLen_sound (s := s) (σ := σ) (ty := o.type) hk
    obtain ⟨v, hr, hv⟩ := hy cx w (a.eval x) h.heap h.box (h.tr x)
    exact wp_val h hd hz ⟨v, by simp [execOp, ho, resolve, invoke, builtin, hr], hv⟩
  · rename_i x y t t' h1 h2 h3
    simp only at h1 h2 h3
    have e2 := arr1 h2
    have e3 := arr1 h3
    subst h1; subst e2; subst e3
    split at hk
    · rename_i e; subst e
      exact semAppend_sound ho hd h hk
    · obtain ⟨ki, hti, hk⟩ := hk
      exact semAppendN_sound hti ho hd h hk
  · rename_i x t h1 h2 h3
    simp only at h1 h2 h3
    have e2 := arr1 h2
    have e3 := arr1 h3
    subst h1; subst e2; subst e3
    exact semClear_sound ho hd h hk
  · rename_i x t h1 h2 h3
    simp only at h1 h2 h3
    have e2 := arr1 h2
    have e3 := arr1 h3
    subst h1; subst e2; subst e3
    split at hk
    · rename_i hx
      obtain ⟨ht, hk⟩ := hk
      have hxv := h.tr x
      rw [hx] at hxv
      exact wp_val h hd hk ⟨.int .i64 0, by simp [execOp, ho, resolve, invoke, builtin, hxv.c_eq, Builtin.cap_, run_underlying (slT_eq ht)]; rfl, .v (.c _)⟩
    · exact hk.elim
  · rename_i x y h1 h2
    simp only at h1 h2
    have e2 := arr1 h2
    subst h1; subst e2
    split at hk
    · rename_i k a1 k' b1 hx hy
      have hxv := h.tr x
      have hyv := h.tr y
      rw [hx] at hxv
      rw [hy] at hyv
      exact wp_val h hd hk ⟨_, by simp [execOp, ho, resolve, invoke, builtin, hxv.c_eq, hyv.c_eq, Builtin.min_, Builtin.min2], .v (.c _)⟩
    · exact hk.elim
  · rename_i x y h1 h2
    simp only at h1 h2
    have e2 := arr1 h2
    subst h1; subst e2
    split at hk
    · rename_i k a1 k' b1 hx hy
      have hxv := h.tr x
      have hyv := h.tr y
      rw [hx] at hxv
      rw [hy] at hyv
      exact wp_val h hd hk ⟨_, by simp [execOp, ho, resolve, invoke, builtin, hxv.c_eq, hyv.c_eq, Builtin.max_, Builtin.max2], .v (.c _)⟩
    · exact hk.elim
  · rename_i f h1
    simp only at h1 hk
    subst h1
    generalize hxs0 : args.toList = xs at hk
    have e2 := arr1 hxs0
    subst e2
    split at hk
    · rename_i g fs cs hf
      obtain ⟨hok, hok2, hcall⟩ := hk
      have hfv := h.tr f
      rw [hf] at hfv
      generalize hfe : a.eval f = fv at hfv
      have hfv' := hfv.ok rfl
      cases hfv' with
      | @fn _ _ _ ys zs hn hh hm hg =>
        have hxs : VAs w cx (xs.map (ev s)) (xs.map a.eval) → VAs w cx (fs ++ xs.map (ev s) ++ cs) (ys ++ xs.map a.eval ++ zs) := fun hx => (VAs.append (VAs.append ⟨hn, hh⟩ hx) ⟨hm, hg⟩)
        have hxa : VAs w cx (xs.map (ev s)) (xs.map a.eval) := ⟨by simp, fun i v x hv hx => by
          simp only [List.getElem?_map, Option.map_eq_some_iff] at hv hx
          obtain ⟨u, hu, rfl⟩ := hv
          obtain ⟨u', hu', rfl⟩ := hx
          rw [hu] at hu'; injection hu' with hu'; subst hu'
          refine (h.tr u).ok ?_
          simp only [List.all_append, Bool.and_eq_true, List.all_map] at hok
          exact List.all_eq_true.1 hok.1.2 u (List.mem_of_getElem? hu)⟩
        have hrun : (execOp a.eval o).run P w = .ok (.enter g ⟨ys ++ xs.map a.eval ++ zs⟩) w := by
          simp [execOp, ho, resolve, hfe, Deferred.ofValue, invoke, hok2]
        unfold Oper.wp
        rw [hrun]
        show Calls P g _ w _
        refine (hcall cx w _ h.heap (by split; exact hxs hxa; exact (hxs hxa).wk)).mono fun e w2 ⟨v, r, cx2, σ2, he, hv, hl, hk2⟩ => ?_
        subst he
        exact ⟨{ cx2 with L := cx.L }, _, σ2, (h.after hl).putO (dOK_spec hd) (.v (hv.keep (fun _ _ => rfl) (Cx.le.L cx2 _))), hk2⟩
    · exact hk.elim
  · exact hk.elim
end
end Go.Abs
namespace Go.Abs
open Go
def keyVal : V → Option Value
  | .c x => some x
  | .agg vs => (toCs vs).map fun us => .agg ⟨us⟩
  | _ => none
def sameK : Value → Value → Bool
  | .agg xs, .agg ys => cellsEq xs.toList ys.toList
  | x, y => cellEq x y
def findM (x : Value) : List MapEntry → Nat → Option (Nat × Value)
  | [], _ => none
  | m :: ms, i => if sameK x m.key then some (i, m.val) else findM x ms (i + 1)
structure KeyT (P : Program) (kt : TypeId) (fits : Value → Bool) : Prop where
  check : ∀ em x (w : World), fits x = true → (Instr.checkKey em 10000 kt x).run P w = .ok () w
  find : ∀ x (ms : List MapEntry) (w : World), fits x = true → (∀ m ∈ ms, fits m.key = true) → (Instr.findKey kt x ms).run P w = .ok (findM x ms 0) w
  stays : ∀ x y (w : World), fits x = true → fits y = true → sameK x y = true → (Instr.keyThatStays y x).run P w = .ok x w
def entV : List V → Value → Nat → Option (Nat × V)
  | .tup [.c k, v] :: es, x, i => if sameK x k then some (i, v) else entV es x (i + 1)
  | _, _, _ => none
def entOk (fits : Value → Bool) : List V → Bool
  | [] => true
  | .tup [.c k, v] :: es => fits k && okV v && entOk fits es
  | _ => false
section
variable {P : Program} {T : Tab} {B : Base} {n : Nat} {cx cx' : Cx} {s : St} {σ σ' : Hp} {a : Act} {w w' : World} {K : St → Hp → Prop}
variable [Mode]
theorem TR.key {v : V} {x y : Value} (h : TR w cx v x) (hk : keyVal v = some y) : x = y := by
  unfold keyVal at hk
  split at hk
  · injection hk with hk; subst hk; exact h.c_eq
  · rename_i vs
    simp only [Option.map_eq_some_iff] at hk
    obtain ⟨us, hu, rfl⟩ := hk
    cases h with
    | v h =>
      cases h with
      | agg h1 hn hh => rw [toCs_VRs hu ⟨hn, h1, hh⟩]
  · cases hk
theorem ent_find {fits : Value → Bool} : ∀ {es : List V} {ms : List MapEntry} (i : Nat) (x : Value), entOk fits es = true → es.length = ms.length →
    (∀ (i : Nat) (e : V) (m : MapEntry), es[i]? = some e → ms[i]? = some m → ∃ v, e = .tup [.c m.key, v] ∧ VR w cx v m.val) →
    (∀ m ∈ ms, fits m.key = true) ∧
    ((entV es x i = none ∧ findM x ms i = none) ∨ ∃ j v m, entV es x i = some (i + j, v) ∧ findM x ms i = some (i + j, m.val) ∧ ms[j]? = some m ∧ VR w cx v m.val ∧ sameK x m.key = true)
  | [], [], i, x, _, _, _ => ⟨fun _ h => by simp at h, .inl ⟨rfl, rfl⟩⟩
  | [], _ :: _, _, _, _, hn, _ => by simp at hn
  | _ :: _, [], _, _, _, hn, _ => by simp at hn
  | e :: es, m :: ms, i, x, hok, hn, hh => by
    obtain ⟨v, rfl, hv⟩ := hh 0 e m rfl rfl
    simp only [entOk, Bool.and_eq_true] at hok
    obtain ⟨h1, h2⟩ := ent_find (es := es) (ms := ms) (i + 1) x hok.2 (by simpa using hn) (fun j e m he hm => hh (j + 1) e m (by simpa using he) (by simpa using hm))
    refine ⟨fun m' hm' => ?_, ?_⟩
    · rcases List.mem_cons.1 hm' with rfl | hm'
      · exact hok.1.1
      · exact h1 m' hm'
    · simp only [entV, findM]
      cases hs : sameK x m.key with
      | true => exact .inr ⟨0, v, m, by simp, by simp, rfl, hv, hs⟩
      | false =>
        rcases h2 with ⟨h3, h4⟩ | ⟨j, v', m', h3, h4, h5, h6, h7⟩
        · exact .inl ⟨by simpa using h3, by simpa using h4⟩
        · refine .inr ⟨j + 1, v', m', ?_, ?_, by simpa using h5, h6, h7⟩
          · simp only [Bool.false_eq_true, if_false, h3]; congr 2; omega
          · simp only [Bool.false_eq_true, if_false, h4]; congr 2; omega
def semMakeMap (r : Option Operand) (d : Option Nat) (K : St → Hp → Prop) (s : St) (σ : Hp) : Prop :=
  match r with
  | none => ∀ g, σ.obj g = none → K (s.putO d (.c (.map (some g)))) (σ.setObj g (some [.tup []]))
  | some _ => False
theorem SR.obj_newO (h : SR B n cx s σ a w) {o : Obj} {cells : List V} (hc : OR (w.alloc o) cx cells o) : SR B n cx s (σ.setObj w.heap.size (some cells)) a (w.alloc o) := by
 have hb : ∀ g, g < w.heap.size → (w.alloc o).heap[g]? = w.heap[g]? := fun g hg => heap_alloc_old w _ hg
 have hH : HR cx σ (w.alloc o) := h.heap.new (.refl _) (fun _ h => .inl h) (by simp) hb
 refine h.heapstep (.refl _) rfl (fun g hg => .inl hg) (fun g hg => ?_) rfl rfl ⟨rfl, fun _ => Nat.le_refl _⟩ (by simp) (fun g hg _ => hb g hg)
  (hH.addObj (heap_alloc_new w _) hc ⟨fun ho => by have := h.heap.own_lt ho; omega, fun hi => by have := h.heap.ilt _ hi; omega⟩)
  (fun _ x hk => .inl ⟨x, hk⟩) (fun g x hk => ?_)
 ·rcases hg with ⟨c, hc'⟩ | ⟨k, x, hk, hb'⟩
  ·by_cases e : g = w.heap.size
   ·exact .inr (by omega)
   ·simp only [Hp.setObj, e, if_false] at hc'; exact .inl (.inl ⟨c, hc'⟩)
  ·exact .inl (.inr ⟨k, x, hk, hb'⟩)
 ·by_cases e : g = w.heap.size
  ·exact .inr (by omega)
  ·simp only [Hp.setObj, e, if_false] at hk; exact .inl ⟨x, hk⟩
theorem semMakeMap_sound {o : Oper} {Q : Exit → Act → World → Prop} {t : TypeId} {r : Option Operand} (ho : o.op = .makeMap t r) (hd : dOK n o.dst) (h : SR B n cx s σ a w) (hk : semMakeMap r o.dst K s σ) : o.wp P a w (KC B n K) Q := by
 unfold semMakeMap at hk
 split at hk
 ·have hno : σ.obj w.heap.size = none := by
   cases hc : σ.obj w.heap.size with
   | none => rfl
   | some c => have := h.heap.own_lt (.inl ⟨c, hc⟩); omega
  have hrun : (execOp a.eval o).run P w = .ok (.value (.map (some w.heap.size))) (w.alloc (.map #[] 0)) := by
   simp [execOp, ho, Instr.makeMap]
  exact wp_new hd hrun (h.obj_newO (.map (es := []) (ms := []) rfl (fun i e m he => by simp at he) .nil (fun m hm => by cases hm))) (.v (.c _)) (hk _ hno)
 ·exact hk.elim
theorem noTupRow {es : List V} {xs : List Value} (h : VRs w cx [.tup es] xs) : False := by
 obtain ⟨x, ys, rfl, h1, hv, _⟩ := h.uncons
 cases hv
 cases h1
def semLookup (P : Program) (xt : TypeId) (m i : V) (c : Bool) (d : Option Nat) (K : St → Hp → Prop) (s : St) (σ : Hp) : Prop :=
  match m, keyVal i with
  | .c (.map (some g)), some x => match σ.obj g with
    | some [.tup es] => ∃ kt et fits, P.underlying xt = some (.map kt et) ∧ KeyT P kt fits ∧ fits x = true ∧ entOk fits es = true ∧
      (match entV es x 0 with
       | some (_, v) => K (s.putO d (if c then .tup [v, .c (.bool true)] else v)) σ
       | none => ∃ z, zeroT P et = some z ∧ K (s.putO d (if c then .tup [ofC z, .c (.bool false)] else ofC z)) σ)
    | _ => False
  | _, _ => False
theorem tup2_VR {u v : V} {x y : Value} (h : VR w cx u x) (k : VR w cx v y) : VR w cx (.tup [u, v]) (.tuple #[x, y]) :=
 .tup rfl fun i v' x' hv hx => by
  match i with
  | 0 => simp at hv hx; subst hv; subst hx; exact h
  | 1 => simp at hv hx; subst hv; subst hx; exact k
  | i + 2 => simp at hv
theorem semLookup_sound {o : Oper} {Q : Exit → Act → World → Prop} {t : TypeId} {x i : Operand} {c : Bool} (ho : o.op = .lookup t x i c) (hd : dOK n o.dst) (h : SR B n cx s σ a w) (hk : semLookup P t (ev s x) (ev s i) c o.dst K s σ) : o.wp P a w (KC B n K) Q := by
  unfold semLookup at hk
  split at hk
  · rename_i g y hm hy
    split at hk
    · rename_i es hob
      obtain ⟨kt, et, fits, hu, KT, hf, hok, hk⟩ := hk
      have hx := h.tr x
      rw [hm] at hx
      have hxv := hx.c_eq
      have hiv := (h.tr i).key hy
      obtain ⟨ob, hg, hor⟩ := h.heap.obj g _ hob
      cases hor with
      | cells hc => exact (noTupRow hc).elim
      | told us T p q => simp [entOk] at hok
      | @map _ ms clock hn hh hbn hcl =>
        obtain ⟨hfm, hent⟩ := ent_find (w := w) (cx := cx) 0 y hok hn hh
        have hck := KT.check ms.isEmpty y w hf
        have hfi := KT.find y ms w hf hfm
        have hz : (ms.toArray).isEmpty = ms.isEmpty := by cases ms <;> rfl
        have hrun : ∀ z, findM y ms 0 = none → zeroT P et = some z → (execOp a.eval o).run P w = .ok (.value (if c then .tuple #[z, .bool false] else z)) w := fun z h1 h2 => by
          rw [h1] at hfi
          cases c <;> simp [execOp, ho, Instr.lookup, run_underlying hu, hxv, hiv, getObj, Sem.run, hg, hck, hfi, zeroT_run h2, Result.andThen]
        have hrun2 : ∀ j v, findM y ms 0 = some (j, v) → (execOp a.eval o).run P w = .ok (.value (if c then .tuple #[v, .bool true] else v)) w := fun j v h1 => by
          rw [h1] at hfi
          cases c <;> simp [execOp, ho, Instr.lookup, run_underlying hu, hxv, hiv, getObj, Sem.run, hg, hck, hfi, Result.andThen]
        rcases hent with ⟨h1, h2⟩ | ⟨j, v, m, h1, h2, h3, h4, h5⟩
        · rw [h1] at hk
          obtain ⟨z, hz1, hk⟩ := hk
          refine wp_val h hd hk ⟨_, hrun z h2 hz1, .v ?_⟩
          cases c with
          | false => exact VR.const z
          | true => exact tup2_VR (VR.const z) (.c _)
        · rw [h1] at hk
          refine wp_val h hd hk ⟨_, hrun2 _ _ h2, .v ?_⟩
          cases c with
          | false => exact h4
          | true => exact tup2_VR h4 (.c _)
    · exact hk.elim
  · exact hk.elim
def semUpdate (P : Program) (mt : TypeId) (m k v : V) (d : Option Nat) (K : St → Hp → Prop) (s : St) (σ : Hp) : Prop :=
  match m, keyVal k with
  | .c (.map (some g)), some x => match σ.obj g with
    | some [.tup es] => okV v = true ∧ ∃ kt et fits, P.underlying mt = some (.map kt et) ∧ KeyT P kt fits ∧ fits x = true ∧ entOk fits es = true ∧
      K (s.putO d .junk) (σ.setObj g (some [.tup (match entV es x 0 with | some (j, _) => es.set j (.tup [.c x, v]) | none => es ++ [.tup [.c x, v]])]))
    | _ => False
  | _, _ => False
theorem SR.obj_set (h : SR B n cx s σ a w) {g : Nat} {cells cells' : List V} {o o' : Obj} (hc : σ.obj g = some cells) (hg : w.heap[g]? = some o) (hor : OR w cx cells' o') :
  SR B n cx s (σ.setObj g (some cells')) a { w with heap := w.heap.setIfInBounds g o' } := by
 have hlt := lt_of_block hg
 have other : ∀ g', g' ≠ g → ({ w with heap := w.heap.setIfInBounds g o' } : World).heap[g']? = w.heap[g']? := fun g' hne => by
  simp [Ne.symm hne]
 have himm : ∀ g', cx.I g' → ({ w with heap := w.heap.setIfInBounds g o' } : World).heap[g']? = w.heap[g']? := fun g' hi => other g' (fun e => h.heap.apart g (.inl ⟨cells, hc⟩) (e ▸ hi))
 have hnew : ({ w with heap := w.heap.setIfInBounds g o' } : World).heap[g]? = some o' := by simp [hlt]
 refine h.heapstep (.refl _) rfl (fun _ hg => .inl hg) (fun g' hg' => ?_) rfl rfl ⟨rfl, fun _ => Nat.le_refl _⟩ (by simp) (fun g' _ hno => other g' (fun e => hno (e ▸ .inl ⟨cells, hc⟩)))
  (h.heap.setObj_same hc hnew (hor.keep himm (.refl _)) (by simp) (fun g' _ hne => other g' hne)) (fun _ x hk => .inl ⟨x, hk⟩) (fun g' x hx => ?_)
 ·rcases own_setObj hg' with h1 | h1
  ·exact .inl h1
  ·exact .inl (h1 ▸ .inl ⟨cells, hc⟩)
 ·by_cases e : g' = g
  ·exact .inl ⟨cells, e ▸ hc⟩
  ·simp only [Hp.setObj, e, if_false] at hx; exact .inl ⟨x, hx⟩
theorem born_set {ms : List MapEntry} {j : Nat} {m m' : MapEntry} (h : ms.Pairwise fun a b => a.born ≠ b.born) (hj : ms[j]? = some m) (he : m'.born = m.born) : (ms.set j m').Pairwise fun a b => a.born ≠ b.born := by
 rw [List.pairwise_iff_getElem] at h ⊢
 obtain ⟨hjl, hjx⟩ := List.getElem?_eq_some_iff.1 hj
 intro p q hp hq hpq
 rw [List.length_set] at hp hq
 have e : ∀ r (hr : r < (ms.set j m').length), ((ms.set j m')[r]).born = (ms[r]'(by rw [List.length_set] at hr; exact hr)).born := fun r hr => by
  rw [List.getElem_set]
  split
  ·rename_i e; subst e; rw [he, hjx]
  ·rfl
 rw [e, e]
 exact h p q hp hq hpq
theorem semUpdate_sound {o : Oper} {Q : Exit → Act → World → Prop} {t : TypeId} {x k y : Operand} (ho : o.op = .mapUpdate t x k y) (hd : dOK n o.dst) (h : SR B n cx s σ a w) (hk : semUpdate P t (ev s x) (ev s k) (ev s y) o.dst K s σ) : o.wp P a w (KC B n K) Q := by
  unfold semUpdate at hk
  split at hk
  · rename_i g key hm hy
    split at hk
    · rename_i es hob
      obtain ⟨hvk, kt, et, fits, hu, KT, hf, hok, hk⟩ := hk
      have hx := h.tr x
      rw [hm] at hx
      have hxv := hx.c_eq
      have hiv := (h.tr k).key hy
      have hyv := (h.tr y).ok hvk
      obtain ⟨ob, hg, hor⟩ := h.heap.obj g _ hob
      cases hor with
      | cells hc => exact (noTupRow hc).elim
      | told us T p q => simp [entOk] at hok
      | @map _ ms clock hn hh hbn hcl =>
        obtain ⟨hfm, hent⟩ := ent_find (w := w) (cx := cx) 0 key hok hn hh
        have hck := KT.check false key w hf
        have hfi := KT.find key ms w hf hfm
        rcases hent with ⟨h1, h2⟩ | ⟨j, v, m, h1, h2, h3, h4, h5⟩
        · rw [h1] at hk
          rw [h2] at hfi
          have hrun : (execOp a.eval o).run P w = .ok .skip { w with heap := w.heap.setIfInBounds g (.map ⟨ms ++ [⟨key, a.eval y, clock⟩]⟩ (clock + 1)) } := by
            simp [execOp, ho, Instr.mapUpdate, run_underlying hu, hxv, hiv, getObj, setObj, Sem.run, hg, hck, hfi, Result.andThen]
          refine wp_skip' (cx' := cx) hd hrun (s' := s) (h.obj_set hob hg (.map (by simp [hn]) (fun i e m he hm' => ?_) (List.pairwise_append.2 ⟨hbn, List.pairwise_singleton _ _, fun a ha b hb => by
            rw [List.mem_singleton.1 hb]; exact Nat.ne_of_lt (hcl a ha)⟩) (fun m hm => by
            rcases List.mem_append.1 hm with h | h
            · exact Nat.lt_succ_of_lt (hcl m h)
            · rw [List.mem_singleton.1 h]; exact Nat.lt_succ_self _))) hk
          by_cases hi : i < es.length
          · rw [List.getElem?_append_left hi] at he
            rw [List.getElem?_append_left (hn ▸ hi)] at hm'
            exact hh i e m he hm'
          · rw [List.getElem?_append_right (by omega)] at he
            rw [List.getElem?_append_right (by omega), ← hn] at hm'
            match hq : i - es.length, he, hm' with
            | 0, he, hm' =>
              simp at he hm'
              subst he; subst hm'
              exact ⟨_, rfl, hyv⟩
            | q + 1, he, hm' => simp at he
        · rw [h1] at hk
          rw [h2] at hfi
          simp only [Nat.zero_add] at hk hfi
          have hst := KT.stays key m.key w hf (hfm m (List.mem_of_getElem? h3)) h5
          have hrun : (execOp a.eval o).run P w = .ok .skip { w with heap := w.heap.setIfInBounds g (.map ((ms.toArray).modify j fun e => { e with key := key, val := a.eval y }) clock) } := by
            simp [execOp, ho, Instr.mapUpdate, run_underlying hu, hxv, hiv, getObj, setObj, Sem.run, hg, hck, hfi, h3, hst, Result.andThen]
          have hjl : j < ms.length := (List.getElem?_eq_some_iff.1 h3).1
          have em : (ms.toArray).modify j (fun e => { e with key := key, val := a.eval y }) = ⟨ms.set j { m with key := key, val := a.eval y }⟩ := by
            apply Array.ext'
            simp only [Array.toList_modify]
            apply List.ext_getElem?
            intro q
            rw [List.getElem?_modify, List.getElem?_set]
            by_cases hq : j = q
            · subst hq; have hmj : ms[j] = m := (List.getElem?_eq_some_iff.1 h3).2; simp [hjl, hmj]
            · simp [hq]
          rw [em] at hrun
          refine wp_skip' (cx' := cx) hd hrun (s' := s) (h.obj_set hob hg (.map (by simp [hn]) (fun i e m' he hm' => ?_) (born_set hbn h3 rfl) (fun x hx => by
            rcases List.mem_or_eq_of_mem_set hx with h | h
            · exact hcl x h
            · rw [h]; exact hcl m (List.mem_of_getElem? h3)))) hk
          by_cases hij : j = i
          · subst hij
            rw [List.getElem?_set_self (by omega)] at he
            rw [List.getElem?_set_self (by omega)] at hm'
            simp at he hm'
            subst he; subst hm'
            exact ⟨_, rfl, hyv⟩
          · rw [List.getElem?_set_ne hij] at he
            rw [List.getElem?_set_ne hij] at hm'
            exact hh i e m' he hm'
    · exact hk.elim
  · exact hk.elim
end
end Go.Abs
namespace Go.Abs
open Go
section
variable {P : Program} {T : Tab} {B : Base} {n : Nat} {cx cx' : Cx} {s : St} {σ σ' : Hp} {a : Act} {w w' : World} {K : St → Hp → Prop}
variable [Mode]
def flag (f : Nat → Bool) : Option Nat → Bool
  | some d => f d
  | none => false
def semOp (P : Program) (T : Tab) (o : Oper) (K : St → Hp → Prop) (s : St) (σ : Hp) : Prop :=
  match o.op with
  | .move x => K (s.putO o.dst (ev s x)) σ
  | .assign x => K (s.putO o.dst (ev s x)) σ
  | .pick c x y => match ev s c with
    | .c (.bool b) => K (s.putO o.dst (if b then ev s x else ev s y)) σ
    | _ => False
  | .alloc t => semAlloc P t (flag T.hp o.dst) o.dst K s σ
  | .box _ x => semBox (ev s x) (flag T.hp o.dst) o.dst K s σ
  | .build t ps => qBuild P t (ps.toList.map fun p => (p.1, ev s p.2)) (fun v => K (s.putO o.dst v) σ)
  | .buildSlice t len ps => semBuildSlice P t len (ps.toList.map fun p => (p.1, ev s p.2)) (flag T.own o.dst) o.dst K s σ
  | .load t x => okT P t = true ∧ szT P t ≠ 0 ∧ (aggT P t = false → szT P t = 1) ∧ qLoad (aggT P t) (szT P t) s σ (fun v => K (s.putO o.dst v) σ) (ev s x)
  | .store t x y => semStore P T.sd t (ev s x) (ev s y) o.dst K s σ
  | .nilCheck x => qNil (fun v => K (s.putO o.dst v) σ) (ev s x)
  | .binOp op t x y _ => semBin P T op t y (ev s x) (ev s y) o.dst K s σ
  | .unOp op _ x => qUn op (fun v => K (s.putO o.dst v) σ) (ev s x)
  | .convert src dst x => semConv P src dst (ev s x) o.dst K s σ
  | .slice t x lo hi none => match ev s x, lo with
    | .gl _, none => semCut P t (ev s x) (hi.map (ev s)) o.dst K s σ
    | .gl _, some _ => semView P σ t (ev s x) (lo.map (ev s)) (hi.map (ev s)) (fun v => K (s.putO o.dst v) σ)
    | _, _ => qSlice P t (lo.map (ev s)) (hi.map (ev s)) (fun v => K (s.putO o.dst v) σ) (ev s x)
  | .fieldAddr t x f => qField P t f (fun v => K (s.putO o.dst v) σ) (ev s x)
  | .field t x f => qFieldV P t f (fun v => K (s.putO o.dst v) σ) (ev s x)
  | .indexAddr t x i => qIndexAddr P σ t (fun v => K (s.putO o.dst v) σ) (ev s x) (ev s i)
  | .index t x i => qIndex P t (fun v => K (s.putO o.dst v) σ) (ev s x) (ev s i)
  | .extract x i => qExtract i (fun v => K (s.putO o.dst v) σ) (ev s x)
  | .makeSlice t l c => semMake P t (ev s l) (ev s c) o.dst K s σ
  | .makeFunc f xs ys => (xs.toList.map (ev s)).all okV = true ∧ (ys.toList.map (ev s)).all okV = true ∧ K (s.putO o.dst (.fn f (xs.toList.map (ev s)) (ys.toList.map (ev s)))) σ
  | .call c => semCall P T.raw c o.dst K s σ
  | .makeMap _ r => semMakeMap r o.dst K s σ
  | .lookup t x i c => semLookup P t (ev s x) (ev s i) c o.dst K s σ
  | .mapUpdate t x k y => semUpdate P t (ev s x) (ev s k) (ev s y) o.dst K s σ
  | _ => False
theorem TRo_map (h : SR B n cx s σ a w) (x : Option Operand) : TRo w cx (x.map (ev s)) (x.map a.eval) := by
 cases x with
 | none => trivial
 | some x => exact h.tr x
theorem VAs_map (h : SR B n cx s σ a w) {xs : List Operand} (hok : (xs.map (ev s)).all okV = true) : VAs w cx (xs.map (ev s)) (xs.map a.eval) :=
 ⟨by simp, fun i v x hv hx => by
  simp only [List.getElem?_map, Option.map_eq_some_iff] at hv hx
  obtain ⟨u, hu, rfl⟩ := hv
  obtain ⟨u', hu', rfl⟩ := hx
  rw [hu] at hu'; injection hu' with hu'; subst hu'
  refine (h.tr u).ok ?_
  simp only [List.all_map] at hok
  exact List.all_eq_true.1 hok u (List.mem_of_getElem? hu)⟩
def pureOp (P : Program) : Op → Bool
  | .move _ | .assign _ | .pick .. | .build .. | .nilCheck _ | .unOp .. | .fieldAddr .. | .field .. | .indexAddr .. | .index .. | .extract .. | .makeFunc .. => true
  | .binOp _ _ _ y _ => !isNilC y
  | .convert src dst _ => match cnvT P src dst with | .toInt _ | .strstr => true | _ => false
  | .call { callee := .builtin .len, .. } => true
  | _ => false
theorem sem_pure (hT : T.ok P) {o : Oper} (hp : pureOp P o.op = true) (hk : semOp P T o K s σ) :
    ∃ v, K (s.putO o.dst v) σ ∧ ∀ {B : Base} {n : Nat} {cx : Cx} {a : Act} {w : World}, SR B n cx s σ a w → ∃ x, (∀ w' : World, (execOp a.eval o).run P w' = .ok (.value x) w') ∧ TR w cx v x := by
  unfold semOp at hk
  cases ho : o.op <;> simp only [ho] at hk hp <;> try (simp [pureOp] at hp; done)
  case move x => exact ⟨_, hk, fun {B n cx a w} h => ⟨_, fun w' => by simp [execOp, ho], h.tr x⟩⟩
  case assign x => exact ⟨_, hk, fun {B n cx a w} h => ⟨_, fun w' => by simp [execOp, ho], h.tr x⟩⟩
  case pick c x y =>
    split at hk
    · rename_i b hc
      refine ⟨_, hk, fun {B n cx a w} h => ?_⟩
      have hcv := h.tr c
      rw [hc] at hcv
      cases b with
      | false => exact ⟨_, fun w' => by simp [execOp, ho, hcv.c_eq, asBool], h.tr y⟩
      | true => exact ⟨_, fun w' => by simp [execOp, ho, hcv.c_eq, asBool], h.tr x⟩
    · exact hk.elim
  case build t ps =>
    obtain ⟨z, hz, hr⟩ := qBuild_sound hk
    refine ⟨z, hz, fun {B n cx a w} h => ?_⟩
    obtain ⟨y, hy, hv⟩ := hr cx w (ps.map fun p => (p.1, a.eval p.2)) (by simp) (fun i p q hp' hq' => by
      simp only [List.getElem?_map, Array.getElem?_toList, Option.map_eq_some_iff, Array.getElem?_map] at hp' hq'
      obtain ⟨u, hu, rfl⟩ := hp'
      obtain ⟨u', hu', rfl⟩ := hq'
      rw [hu] at hu'; injection hu' with hu'; subst hu'
      exact ⟨rfl, h.tr u.2⟩)
    exact ⟨y, fun w' => by simp [execOp, ho, hy], hv⟩
  case nilCheck x =>
    obtain ⟨z, hz, hr⟩ := qNil_sound (P := P) (s := s) (σ := σ) ho hk
    exact ⟨z, hz, fun {B n cx a w} h => hr cx w a.eval h.heap h.box (h.tr x)⟩
  case binOp op t x y t' =>
    unfold semBin at hk
    have hn : isNilC y = false := by simpa [pureOp] using hp
    rw [hn] at hk
    simp only at hk
    obtain ⟨z, hz, hr⟩ := qBin_sound hT (s := s) (σ := σ) (x := x) (y := y) hk
    refine ⟨z, hz, fun {B n cx a w} h => ?_⟩
    obtain ⟨v, hv, ht⟩ := hr cx w (a.eval x) (a.eval y) h.heap h.box (h.tr x) (h.tr y)
    exact ⟨v, fun w' => by
      have he : execOp a.eval o = (do pure (.value (← bfull op t x y (a.eval x) (a.eval y)))) := by simp only [execOp, ho, bfull]
      rw [he, Sem.run_bind, hv]; rfl, ht⟩
  case unOp op t x =>
    obtain ⟨z, hz, hr⟩ := qUn_sound (P := P) (s := s) (σ := σ) hk
    refine ⟨z, hz, fun {B n cx a w} h => ?_⟩
    obtain ⟨v, hv, ht⟩ := hr cx w (a.eval x) h.heap h.box (h.tr x)
    exact ⟨v, fun w' => by simp [execOp, ho, hv], ht⟩
  case convert src dst x =>
    unfold semConv at hk
    have hq : qConv P src dst (fun v => K (s.putO o.dst v) σ) (ev s x) := by
      cases hc : cnvT P src dst <;> simp [pureOp, hc] at hp <;> simpa [hc] using hk
    obtain ⟨z, hz, hr⟩ := qConv_sound (P := P) (s := s) (σ := σ) hq
    refine ⟨z, hz, fun {B n cx a w} h => ?_⟩
    obtain ⟨v, hv, ht⟩ := hr cx w (a.eval x) h.heap h.box (h.tr x)
    exact ⟨v, fun w' => by
      have he : execOp a.eval o = (do pure (.value (← convert src dst (a.eval x)))) := by simp only [execOp, ho]
      rw [he, Sem.run_bind, hv]; rfl, ht⟩
  case fieldAddr t x f =>
    obtain ⟨z, hz, hr⟩ := qField_sound (P := P) (s := s) (σ := σ) hk
    refine ⟨z, hz, fun {B n cx a w} h => ?_⟩
    obtain ⟨v, hv, ht⟩ := hr cx w (a.eval x) h.heap h.box (h.tr x)
    exact ⟨v, fun w' => by simp [execOp, ho, hv], ht⟩
  case field t x f =>
    obtain ⟨z, hz, hr⟩ := qFieldV_sound (P := P) (s := s) (σ := σ) hk
    refine ⟨z, hz, fun {B n cx a w} h => ?_⟩
    obtain ⟨v, hv, ht⟩ := hr cx w (a.eval x) h.heap h.box (h.tr x)
    exact ⟨v, fun w' => by simp [execOp, ho, hv], ht⟩
  case indexAddr t x i =>
    obtain ⟨z, hz, hr⟩ := qIndexAddr_sound (P := P) (s := s) (σ := σ) hk
    refine ⟨z, hz, fun {B n cx a w} h => ?_⟩
    obtain ⟨v, hv, ht⟩ := hr cx w (a.eval x) (a.eval i) h.heap h.box (h.tr x) (h.tr i)
    exact ⟨v, fun w' => by simp [execOp, ho, hv], ht⟩
  case index t x i =>
    obtain ⟨z, hz, hr⟩ := qIndex_sound (P := P) (s := s) (σ := σ) hk
    refine ⟨z, hz, fun {B n cx a w} h => ?_⟩
    obtain ⟨v, hv, ht⟩ := hr cx w (a.eval x) (a.eval i) h.heap h.box (h.tr x) (h.tr i)
    exact ⟨v, fun w' => by simp [execOp, ho, hv], ht⟩
  case extract x i =>
    obtain ⟨z, hz, hr⟩ := qExtract_sound (P := P) (s := s) (σ := σ) hk
    refine ⟨z, hz, fun {B n cx a w} h => ?_⟩
    obtain ⟨v, hv, ht⟩ := hr cx w (a.eval x) h.heap h.box (h.tr x)
    exact ⟨v, fun w' => by simp [execOp, ho, hv], ht⟩
  case makeFunc f xs ys =>
    obtain ⟨h1, h2, hk⟩ := hk
    refine ⟨_, hk, fun {B n cx a w} h => ⟨.func f ⟨xs.toList.map a.eval⟩ ⟨ys.toList.map a.eval⟩, fun w' => ?_, .v ?_⟩⟩
    · have e1 : xs.map a.eval = ⟨xs.toList.map a.eval⟩ := by apply Array.ext'; simp
      have e2 : ys.map a.eval = ⟨ys.toList.map a.eval⟩ := by apply Array.ext'; simp
      simp [execOp, ho, Instr.makeFunc, e1, e2]
    · have v1 := VAs_map h h1
      have v2 := VAs_map h h2
      exact .fn v1.1 v1.2 v2.1 v2.2
  case call c =>
    obtain ⟨callee, args, argTypes⟩ := c
    cases callee with
    | builtin b =>
      cases b <;> try (simp [pureOp] at hp; done)
      unfold semCall at hk
      split at hk
      · rename_i x t h1 h2 h3
        simp only at h1 h2 h3
        have e2 := arr1 h2
        have e3 := arr1 h3
        subst e2; subst e3
        obtain ⟨z, hz, hr⟩ := qLen_sound (P := P) (s := s) (σ := σ) (ty := o.type) hk
        refine ⟨z, hz, fun {B n cx a w} h => ?_⟩
        obtain ⟨v, hv, ht⟩ := hr cx w (a.eval x) h.heap h.box (h.tr x)
        exact ⟨v, fun w' => by simp [execOp, ho, resolve, invoke, builtin, hv], ht⟩
      · rename_i h1 _ _; simp at h1
      · rename_i h1 _ _; simp at h1
      · rename_i h1 _ _; simp at h1
      · rename_i h1 _; simp at h1
      · rename_i h1 _; simp at h1
      · rename_i h1; simp at h1
      · exact hk.elim
    | _ => simp [pureOp] at hp
theorem sem_sound (hT : T.ok P) (hsd : B.sd = T.sd) {o : Oper} {Q : Exit → Act → World → Prop} (hd : dOK n o.dst) (h : SR B n cx s σ a w) (hk : semOp P T o K s σ) : o.wp P a w (KC B n K) Q := by
  by_cases hp : pureOp P o.op = true
  · obtain ⟨v, hv, hr⟩ := sem_pure hT hp hk
    obtain ⟨x, hx, ht⟩ := hr h
    exact wp_val h hd hv ⟨x, hx w, ht⟩
  · unfold semOp at hk
    cases ho : o.op <;> simp only [ho] at hk hp <;> try (simp [pureOp] at hp; done)
    all_goals try exact hk.elim
    case alloc t => exact semAlloc_sound ho hd h hk
    case box t x => exact semBox_sound ho hd h hk
    case buildSlice t len ps => exact semBuildSlice_sound ho hd h hk
    case load t x =>
      obtain ⟨h1, h2, h3, hk⟩ := hk
      obtain ⟨v, hv, hr⟩ := qLoad_sound (P := P) (s := s) (σ := σ) h1 h2 h3 hk
      obtain ⟨y, b, off, hp', hy, ht, _⟩ := hr cx w (a.eval x) h.heap h.box (h.tr x)
      exact wp_val h hd hv ⟨y, by simp [execOp, ho, hy w rfl], ht⟩
    case store t x y => exact semStore_sound ho hd h (by rw [hsd]; exact hk)
    case binOp op t x y t' => exact semBin_sound hT ho hd h hk
    case convert src dst x => exact semConv_sound ho hd h hk
    case makeSlice t l c => exact semMake_sound ho hd h hk
    case slice t x lo hi mx =>
      cases mx with
      | some m => exact hk.elim
      | none =>
        simp only at hk
        split at hk
        · exact semCut_sound ho hd h hk
        · rename_i lo' _
          obtain ⟨z, hz, hr⟩ := semView_sound (P := P) (σ := σ) hk
          obtain ⟨v, hv, ht⟩ := hr cx w (a.eval x) _ _ h.heap (h.tr x) (TRo_map h (some lo')) (TRo_map h hi)
          rw [Option.map_some] at hv
          exact wp_val h hd hz ⟨v, by simp [execOp, ho, hv], ht⟩
        · obtain ⟨z, hz, hr⟩ := qSlice_sound (P := P) (s := s) (σ := σ) hk
          obtain ⟨v, hv, ht⟩ := hr cx w (a.eval x) _ _ h.heap h.box (h.tr x) (TRo_map h _) (TRo_map h hi)
          exact wp_val h hd hz ⟨v, by simp [execOp, ho, hv], ht⟩
    case call c => exact semCall_sound ho hd h hk
    case makeMap t r => exact semMakeMap_sound ho hd h hk
    case lookup t x i c => exact semLookup_sound ho hd h hk
    case mapUpdate t x k y => exact semUpdate_sound ho hd h hk
def gate (ds : List (Option Nat)) (s : St) (g : Option (Nat × Bool)) (yes no : Prop) : Prop :=
  match g with
  | none => yes
  | some (j, want) => match ds[j]? with
    | some (some d) => match s.t d with
      | .c (.bool b) => if b = want then yes else no
      | .c (.tuple _) => no
      | _ => False
    | _ => False
def semL (P : Program) (T : Tab) (n : Nat) (ds : List (Option Nat)) : List Oper → (St → Hp → Prop) → St → Hp → Prop
  | [], K, s, σ => K s σ
  | o :: r, K, s, σ => dOK n o.dst ∧ gate ds s o.guard (semOp P T o (semL P T n ds r K) s σ) (semL P T n ds r K (s.putO o.dst (.c undef)) σ)
theorem gate_wanted {ops : Array Oper} (h : SR B n cx s σ a w) {o : Oper} {yes no : Prop} (hg : gate (ops.toList.map (·.dst)) s o.guard yes no) :
    (Region.wanted o (yielded ops a.tmps) = true ∧ yes) ∨ (Region.wanted o (yielded ops a.tmps) = false ∧ no) := by
  unfold gate at hg
  unfold Region.wanted
  cases hgd : o.guard with
  | none => simp only [hgd] at hg; exact .inl ⟨rfl, hg⟩
  | some jw =>
    obtain ⟨j, want⟩ := jw
    simp only [hgd] at hg
    split at hg
    · rename_i d hd
      have hd' : ∃ oj, ops[j]? = some oj ∧ oj.dst = some d := by
        simpa using hd
      obtain ⟨oj, hj, hjd⟩ := hd'
      split at hg
      · rename_i b hb
        have ht := h.tmp d
        rw [hb] at ht
        have hv := ht.c_eq
        have hin : a.tmps[d]? = some (.bool b) := by
          rw [Array.getD_eq_getD_getElem?] at hv
          cases hx : a.tmps[d]? with
          | none => rw [hx] at hv; simp [undef] at hv
          | some x => rw [hx] at hv; simpa using hv
        have hy : yielded ops a.tmps j = some b := by
          simp [yielded, hj, hjd, hin]
        simp only [hy]
        split at hg
        · rename_i e; subst e; exact .inl ⟨by simp, hg⟩
        · rename_i e; exact .inr ⟨by simpa using e, hg⟩
      · rename_i b hb
        have ht := h.tmp d
        rw [hb] at ht
        have hv := ht.c_eq
        have hy : yielded ops a.tmps j = none := by
          rw [Array.getD_eq_getD_getElem?] at hv
          cases hx : a.tmps[d]? with
          | none => simp [yielded, hj, hjd, hx]
          | some x => rw [hx] at hv; simp at hv; simp [yielded, hj, hjd, hx, hv]
        simp only [hy]
        exact .inr ⟨by simp, hg⟩
      · exact hg.elim
    · exact hg.elim
theorem semL_sound (hT : T.ok P) (hsd : B.sd = T.sd) {ops : Array Oper} {Q : Exit → Act → World → Prop} : ∀ (l : List Oper) {cx : Cx} {s : St} {σ : Hp} {a : Act} {w : World}, SR B n cx s σ a w → (∀ a w, KC B n K a w → Q .normal a w) →
    semL P T n (ops.toList.map (·.dst)) l K s σ → wpList P ops Q l a w
  | [], cx, s, σ, a, w, h, hQ, hk => hQ a w ⟨cx, s, σ, h, hk⟩
  | o :: r, cx, s, σ, a, w, h, hQ, hk => by
    simp only [semL] at hk
    obtain ⟨hd, hk⟩ := hk
    have next : ∀ a' w', KC B n (semL P T n (ops.toList.map (·.dst)) r K) a' w' → wpList P ops Q r a' w' := fun a' w' ⟨cx', s', σ', h', hk'⟩ => semL_sound hT hsd r h' hQ hk'
    rcases gate_wanted (ops := ops) h hk with ⟨hw, hk⟩ | ⟨hw, hk⟩
    · simp only [wpList, hw, if_true]
      exact .inl (Oper.wp_mono next (sem_sound hT hsd hd h hk))
    · simp only [wpList, hw]
      exact semL_sound hT hsd r (h.putO (dOK_spec hd) (.v (.c undef))) hQ hk
end
end Go.Abs
namespace Go.Abs
open Go
section
variable {P : Program} {T : Tab} {B : Base} {n : Nat} {cx cx' : Cx} {s : St} {σ σ' : Hp} {a : Act} {w w' : World} {K : St → Hp → Prop}
variable [Mode]
def steady (sd : Nat → Bool) : V → Bool
  | .lp d _ => sd d
  | .ip _ _ _ => true
  | _ => false
def semD (P : Program) (T : Tab) (n : Nat) (ops : List Oper) (ds : List (Option Nat)) : List (Nat × Nat) → (St → Hp → Prop) → St → Hp → Prop
  | [], K, s, σ => K s σ
  | (i, k) :: r, K, s, σ => match ops[i]? with
    | none => False
    | some o => dOK n o.dst ∧
      (match k, o.op with
       | 1, .load _ x => gate ds s o.guard (steady T.sd (ev s x) = true) True
       | 1, _ => False
       | _, _ => True) ∧
      gate ds s o.guard (semOp P T o (semD P T n ops ds r K) s σ) (semD P T n ops ds r K (s.putO o.dst (.c undef)) σ)
def isLoad : Op → Bool
  | .load _ _ => true
  | _ => false
def schedB (P : Program) (ops : Array Oper) : List (Nat × Nat) → Bool → Array Bool → Bool
  | [], _, listed => (Region.ready .any ops listed).isEmpty
  | (i, k) :: r, early, listed =>
    (match k with
     | 0 => ((ops[i]?).map fun o => pureOp P o.op).getD false && (Region.ready .any ops listed).contains i && Region.free .any ops listed i
     | 1 => early && ((ops[i]?).map fun o => isLoad o.op).getD false && (Region.ready .any ops listed).contains i && Region.free .any ops listed i
     | _ => Region.ready .any ops listed == [i]) &&
    schedB P ops r early (listed.setIfInBounds i true)
def Base.at (B : Base) (cx : Cx) (l : Nat → Option (List V)) (sd : Nat → Bool) (w : World) : Base :=
  { B with still := fun g => cx.I g ∨ ∃ d cells, sd d = true ∧ l d = some cells ∧ cx.L d = g, sd := sd, w1 := w }
theorem SR.toAt (h : SR B n cx s σ a w) (sd : Nat → Bool) : SR (B.at cx s.l sd w) n cx s σ a w :=
 ⟨h.size, h.defers, h.nd, h.tmp, h.heap, h.box, h.ext, h.gnew, h.onew, fun _ _ => rfl, fun g hg => by
  rcases hg with hg | ⟨d, cells, _, hd, rfl⟩
  ·exact ⟨h.heap.ilt g hg, fun ho => h.heap.apart g ho hg⟩
  ·obtain ⟨T, cs, h1, _⟩ := h.box.box d cells hd
   exact ⟨lt_of_block h1, (h.box.apart d cells hd).2⟩, fun d cells hd hg => by
  rcases hg with hg | ⟨d', cells', hsd, hd', e⟩
  ·exact absurd hg (h.box.apart d cells hd).1
  ·rw [h.box.inj d d' cells cells' hd hd' e.symm]; exact hsd⟩
def Base.re (B : Base) (cx : Cx) (l : Nat → Option (List V)) (sd : Nat → Bool) (w : World) : Base :=
  { B with still := fun g => B.still g ∨ cx.I g ∨ ∃ d cells, sd d = true ∧ l d = some cells ∧ cx.L d = g, sd := sd, w1 := w }
theorem SR.re (h : SR B n cx s σ a w) {sd : Nat → Bool} (hsd : B.sd = sd) : SR (B.re cx s.l sd w) n cx s σ a w :=
 ⟨h.size, h.defers, h.nd, h.tmp, h.heap, h.box, h.ext, h.gnew, h.onew, fun _ _ => rfl, fun g hg => by
  rcases hg with hg | hg | ⟨d, cells, _, hd, rfl⟩
  ·exact h.stN g hg
  ·exact ⟨h.heap.ilt g hg, fun ho => h.heap.apart g ho hg⟩
  ·obtain ⟨T, cs, h1, _⟩ := h.box.box d cells hd
   exact ⟨lt_of_block h1, (h.box.apart d cells hd).2⟩, fun d cells hd hg => by
  rcases hg with hg | hg | ⟨d', cells', hsd', hd', e⟩
  ·have := h.stS d cells hd hg; rw [hsd] at this; exact this
  ·exact absurd hg (h.box.apart d cells hd).1
  ·rw [h.box.inj d d' cells cells' hd hd' e.symm]; exact hsd'⟩
theorem SR.ofRe {cx0 : Cx} {l0 : Nat → Option (List V)} {sd : Nat → Bool} {w1 : World} (hsd : B.sd = sd) (h1 : ∀ g, B.still g → w1.heap[g]? = B.w1.heap[g]?) (h : SR (B.re cx0 l0 sd w1) n cx s σ a w) : SR B n cx s σ a w :=
 ⟨h.size, h.defers, h.nd, h.tmp, h.heap, h.box, h.ext, h.gnew, h.onew, fun g hg => (h.stab g (.inl hg)).trans (h1 g hg), fun g hg => h.stN g (.inl hg), fun d c hd hg => by
  have := h.stS d c hd (.inl hg); rw [hsd]; exact this⟩
theorem wpAnyH_mono {ops : Array Oper} {Q : Exit → Act → World → Prop} {md : Region.Mode} {S S' : World → Prop} (hS : ∀ w, S' w → S w) : ∀ (fuel : Nat) (listed : Array Bool) (a : Act) (w : World), wpAnyH P md ops Q S' fuel listed a w → wpAnyH P md ops Q S fuel listed a w
 | 0, _, _, _, h => h
 | fuel + 1, _, _, _, h => ⟨h.1, fun i hi => wpOp_mono (fun a' w' h' => ⟨hS w' h'.1, wpAnyH_mono hS fuel _ a' w' h'.2⟩) (h.2 i hi)⟩
def Base.plain (B : Base) : Prop := (∀ g, ¬ B.still g) ∧ B.nd = false
theorem SR.ofAt {B : Base} (hB : B.plain) {cx0 : Cx} {l0 : Nat → Option (List V)} {sd : Nat → Bool} {w1 : World} (h : SR (B.at cx0 l0 sd w1) n cx s σ a w) : SR B n cx s σ a w :=
 ⟨h.size, h.defers, h.nd, h.tmp, h.heap, h.box, h.ext, h.gnew, h.onew, fun g hg => (hB.1 g hg).elim, fun g hg => (hB.1 g hg).elim, fun _ _ _ hg => (hB.1 _ hg).elim⟩
def stillW (B : Base) (w' : World) : Prop := ∀ g, B.still g → w'.heap[g]? = B.w1.heap[g]?
theorem SR.stillW (h : SR B n cx s σ a w) : Abs.stillW B w := fun g hg => h.stab g hg
def onlyN (Q : Act → World → Prop) : Exit → Act → World → Prop
  | .normal, a, w => Q a w
  | _, _, _ => False
theorem gate_and {ds : List (Option Nat)} {g : Option (Nat × Bool)} {a b c d : Prop} (h : gate ds s g a b) (k : gate ds s g c d) : gate ds s g (a ∧ c) (b ∧ d) := by
 unfold gate at *
 split
 ·exact ⟨h, k⟩
 ·rename_i j want
  simp only at h k
  split at h
  ·rename_i e hd
   simp only [hd] at k ⊢
   split at h
   ·rename_i b' hb
    simp only [hb] at k ⊢
    split
    ·rename_i e; rw [if_pos e] at h k; exact ⟨h, k⟩
    ·rename_i e; rw [if_neg e] at h k; exact ⟨h, k⟩
   ·rename_i b' hb
    simp only [hb] at k ⊢
    exact ⟨h, k⟩
   ·exact h.elim
  ·exact h.elim
theorem semD_sound (hT : T.ok P) {ops : Array Oper} (hs : Region.noSelect ops = true) {Q : Act → World → Prop} :
    ∀ (sched : List (Nat × Nat)) (early : Bool) (listed : Array Bool) {B : Base} (_hsd : B.sd = T.sd) (_hQ : ∀ a w, KC B n K a w → Q a w) {cx : Cx} {s : St} {σ : Hp} {a : Act} {w : World}, schedB P ops sched early listed = true → SR B n cx s σ a w →
    (early = true → (∀ g, cx.I g → B.still g) ∧ (∀ d cells, T.sd d = true → s.l d = some cells → B.still (cx.L d))) →
    semD P T n ops.toList (ops.toList.map (·.dst)) sched K s σ → wpAnyH P .any ops (onlyN Q) (stillW B) sched.length listed a w
  | [], early, listed, B, hsd, hQ, cx, s, σ, a, w, hB, h, he, hk => by
    simp only [schedB, List.isEmpty_iff] at hB
    exact wpAnyH_done hB (hQ a w ⟨cx, s, σ, h, hk⟩) 0
  | (i, k) :: r, early, listed, B, hsd, hQ, cx, s, σ, a, w, hB, h, he, hk => by
    simp only [schedB, Bool.and_eq_true] at hB
    obtain ⟨hB1, hB2⟩ := hB
    simp only [semD] at hk
    cases hi : ops.toList[i]? with
    | none => simp [hi] at hk
    | some o =>
      simp only [hi] at hk
      obtain ⟨hd, hst, hk⟩ := hk
      have hi' : ops[i]? = some o := by simpa using hi
      have take : ∀ {v : V} {x : Value}, (Region.wanted o (yielded ops a.tmps) = true ∧ (∀ w', stillW B w' → (execOp a.eval o).run P w' = .ok (.value x) w') ∨ Region.wanted o (yielded ops a.tmps) = false ∧ x = undef) → TR w cx v x →
          semD P T n ops.toList (ops.toList.map (·.dst)) r K (s.putO o.dst v) σ → (Region.ready .any ops listed).contains i = true → Region.free .any ops listed i = true →
          wpAnyH P .any ops (onlyN Q) (stillW B) ((i, k) :: r).length listed a w := fun {v x} hy hv hkr hr hf => by
        have h' := h.putO (dOK_spec hd) hv
        refine wpAnyH_take hi' hs hf hr (fun _ _ _ hq => hq.elim) (v := x) hy h.stillW ?_
        refine semD_sound hT hs r early _ hsd hQ hB2 h' (fun e1 => ?_) hkr
        obtain ⟨h1, h2⟩ := he e1
        refine ⟨h1, fun d cells hsd' hd' => h2 d cells hsd' ?_⟩
        cases hdst : o.dst with
        | none => rw [hdst] at hd'; exact hd'
        | some e => rw [hdst] at hd'; exact hd'
      rcases k with _ | _ | k
      · simp only [hi', Option.map_some, Option.getD_some, Bool.and_eq_true] at hB1
        obtain ⟨⟨hp, hr⟩, hf⟩ := hB1
        rcases gate_wanted (ops := ops) h hk with ⟨hw, hk⟩ | ⟨hw, hk⟩
        · obtain ⟨v, hv, hy⟩ := sem_pure hT hp hk
          obtain ⟨x, hx, ht⟩ := hy h
          exact take (.inl ⟨hw, fun w' _ => hx w'⟩) ht hv hr hf
        · exact take (.inr ⟨hw, rfl⟩) (.v (.c undef)) hk hr hf
      · simp only [hi', Option.map_some, Option.getD_some, Bool.and_eq_true] at hB1
        obtain ⟨⟨⟨hea, hp⟩, hr⟩, hf⟩ := hB1
        obtain ⟨h1, h2⟩ := he hea
        cases ho : o.op <;> simp only [ho, isLoad] at hp hst <;> try (cases hp; done)
        rename_i t x
        have hk2 := gate_and hst hk
        rcases gate_wanted (ops := ops) h hk2 with ⟨hw, hst, hk⟩ | ⟨hw, _, hk⟩
        · unfold semOp at hk
          simp only [ho] at hk
          obtain ⟨c1, c2, c3, hk⟩ := hk
          obtain ⟨v, hv, hy⟩ := qLoad_sound (P := P) (s := s) (σ := σ) c1 c2 c3 hk
          obtain ⟨y, b, off, hp', hyr, ht, hlp, hip⟩ := hy cx w (a.eval x) h.heap h.box (h.tr x)
          have hb : B.still b := by
            cases hx : ev s x with
            | lp d off' =>
              rw [hlp d off' hx]
              have hsd' : T.sd d = true := by simpa [steady, hx] using hst
              have hl : ∃ cells, s.l d = some cells := by
                rw [hx] at hk
                unfold qLoad at hk
                cases hld : s.l d with
                | none => simp [hld] at hk
                | some cells => exact ⟨cells, rfl⟩
              obtain ⟨cells, hl⟩ := hl
              exact h2 d cells hsd' hl
            | ip es i' off' => exact h1 b (hip es i' off' hx)
            | _ => simp [steady, hx] at hst
          refine take (.inl ⟨hw, fun w' hw' => ?_⟩) ht hv hr hf
          have := hyr w' ((hw' b hb).trans (h.stab b hb).symm)
          simp [execOp, ho, this]
        · exact take (.inr ⟨hw, rfl⟩) (.v (.c undef)) hk hr hf
      · have hB1 : Region.ready .any ops listed = [i] := by simpa using hB1
        refine wpAnyH_all (rs := [i]) hB1 (by simp) (fun j hj => ?_)
        have hj : j = i := by simpa using hj
        subst hj
        have next : ∀ a' w', KC B n (semD P T n ops.toList (ops.toList.map (·.dst)) r K) a' w' → stillW B w' ∧ wpAnyH P .any ops (onlyN Q) (stillW B) r.length (listed.setIfInBounds j true) a' w' := fun a' w' ⟨cx', s', σ', h', hk'⟩ =>
          ⟨h'.stillW, wpAnyH_mono (S' := stillW (B.re cx' s'.l T.sd w')) (fun w'' hw g hg => (hw g (.inl hg)).trans (h'.stab g hg)) _ _ _ _
            (semD_sound hT hs r early _ rfl (fun a'' w'' ⟨cx2, s2, σ2, h2, hk2⟩ => hQ a'' w'' ⟨cx2, s2, σ2, h2.ofRe hsd (fun g hg => h'.stab g hg), hk2⟩) hB2 (h'.re hsd)
              (fun _ => ⟨fun g hg => .inr (.inl hg), fun d cells hd hl => .inr (.inr ⟨d, cells, hd, hl, rfl⟩)⟩) hk')⟩
        unfold wpOp
        simp only [hi']
        rcases gate_wanted (ops := ops) h hk with ⟨hw, hk⟩ | ⟨hw, hk⟩
        · simp only [hw, if_true]
          exact .inl (Oper.wp_mono next (sem_sound hT hsd hd h hk))
        · simp only [hw, Bool.false_eq_true, if_false]
          exact next _ _ ⟨cx, _, σ, h.putO (dOK_spec hd) (.v (.c undef)), hk⟩
end
end Go.Abs
namespace Go.Abs
open Go
section
variable {P : Program} {T : Tab} {n : Nat} {s : St} {σ : Hp} {K : St → Hp → Prop} {Q Q' : Exit → St → Hp → Prop}
variable [Mode]
def QC (B : Base) (n : Nat) (Q : Exit → St → Hp → Prop) (e : Exit) (a : Act) (w : World) : Prop := ∃ cx s σ, SR B n cx s σ a w ∧ Q e s σ
def AW (P : Program) (n : Nat) (c : Code) (Q : Exit → St → Hp → Prop) (s : St) (σ : Hp) : Prop :=
  ∀ (B : Base) (cx : Cx) (a : Act) (w : World), B.plain → B.sd = (fun _ => false) → SR B n cx s σ a w → c.wp P (QC B n Q) a w
def thenS (K : St → Hp → Prop) (Q : Exit → St → Hp → Prop) : Exit → St → Hp → Prop
  | .normal, s, σ => K s σ
  | e, s, σ => Q e s σ
def inBlockS (id : Nat) (Q : Exit → St → Hp → Prop) : Exit → St → Hp → Prop
  | .exit id', s, σ => if id' = id then Q .normal s σ else Q (.exit id') s σ
  | e, s, σ => Q e s σ
theorem AW.mono {c : Code} (h : AW P n c Q s σ) (hq : ∀ e s σ, Q e s σ → Q' e s σ) : AW P n c Q' s σ :=
 fun B cx a w h1 h2 h3 => wp_mono (h B cx a w h1 h2 h3) fun e _ _ ⟨cx', s', σ', h4, h5⟩ => ⟨cx', s', σ', h4, hq e s' σ' h5⟩
theorem AW.skip (h : Q .normal s σ) : AW P n .skip Q s σ := fun _ cx _ _ _ _ h3 => wp_skip ⟨cx, s, σ, h3, h⟩
theorem AW.exit {id : Nat} (h : Q (.exit id) s σ) : AW P n (.exit id) Q s σ := fun _ cx _ _ _ _ h3 => wp_exit ⟨cx, s, σ, h3, h⟩
theorem AW.ret (h : Q .ret s σ) : AW P n .ret Q s σ := fun _ cx _ _ _ _ h3 => wp_ret ⟨cx, s, σ, h3, h⟩
theorem AW.seq {x y : Code} (h : AW P n x (thenS (AW P n y Q) Q) s σ) : AW P n (.seq x y) Q s σ :=
 fun B cx a w h1 h2 h3 => wp_seq (wp_mono (h B cx a w h1 h2 h3) fun e a' w' ⟨cx', s', σ', h4, h5⟩ => by
  cases e with
  | normal => exact h5 B cx' a' w' h1 h2 h4
  | _ => exact ⟨cx', s', σ', h4, h5⟩)
theorem AW.seq_k {x y : Code} (h : ∀ K : St → Hp → Prop, (∀ s σ, AW P n y Q s σ → K s σ) → AW P n x (thenS K Q) s σ) : AW P n (.seq x y) Q s σ :=
 .seq (h _ fun _ _ h => h)
theorem AW.cond {c : Operand} {x y : Code} {b : Bool} (hc : ev s c = .c (.bool b)) (ht : b = true → AW P n x Q s σ) (hf : b = false → AW P n y Q s σ) : AW P n (.cond c x y) Q s σ :=
 fun B cx a w h1 h2 h3 => by
  have hv := h3.tr c
  rw [hc] at hv
  exact wp_cond_split hv.c_eq (fun e => ht e B cx a w h1 h2 h3) (fun e => hf e B cx a w h1 h2 h3)
theorem AW.block {id : Nat} {c : Code} (h : AW P n c (inBlockS id Q) s σ) : AW P n (.block id c) Q s σ :=
  fun B cx a w h1 h2 h3 => wp_block (wp_mono (h B cx a w h1 h2 h3) fun e a' w' ⟨cx', s', σ', h4, h5⟩ => by
    cases e with
    | exit id' =>
      simp only [Exit.inBlock, inBlockS] at h5 ⊢
      split
      · rename_i e; rw [if_pos e] at h5; exact ⟨cx', s', σ', h4, h5⟩
      · rename_i e; rw [if_neg e] at h5; exact ⟨cx', s', σ', h4, h5⟩
    | _ => exact ⟨cx', s', σ', h4, h5⟩)
theorem wp_loop_rel {c : Code} {a : Act} {w : World} {Q : Exit → Act → World → Prop} (I : Nat → Act → World → Prop) (h₀ : ∃ m, I m a w)
    (round : ∀ m a w, I m a w → c.wp P (Exit.then (fun a' w' => ∃ m', m' < m ∧ I m' a' w') Q) a w) : (Code.loop c).wp P Q a w := by
  intro b k cs
  have key : ∀ m a w, I m a w → ∃ e a' w', Q e a' w' ∧ Arrives P (lone (b.at a (.code c :: .inLoop c :: k)) cs w) b k cs e a' w' := by
    intro m
    induction m using Nat.strongRecOn with
    | _ m ih =>
      intro a w hI
      obtain ⟨e, a₁, w₁, hq, harr⟩ := round m a w hI b (.inLoop c :: k) cs
      cases e with
      | normal =>
        obtain ⟨m', hlt, hI₁⟩ := hq
        obtain ⟨e₂, a₂, w₂, hq₂, harr₂⟩ := ih m' hlt a₁ w₁ hI₁
        exact ⟨e₂, a₂, w₂, hq₂, .of_steps (Steps.trans harr (.one step_inLoop)) harr₂⟩
      | exit id => exact ⟨_, a₁, w₁, hq, .pass (x := .inLoop c) rfl (fun _ _ => .inl (by simp)) harr⟩
      | goto l => exact ⟨_, a₁, w₁, hq, .pass (x := .inLoop c) rfl (fun _ _ => .inl (by simp)) harr⟩
      | ret => exact ⟨_, a₁, w₁, hq, .pass (x := .inLoop c) rfl (fun _ _ => .inl (by simp)) harr⟩
      | panic ch => exact ⟨_, a₁, w₁, hq, .pass (x := .inLoop c) rfl (fun _ _ => .inl (by simp)) harr⟩
      | outgrown => exact ⟨_, a₁, w₁, hq, .pass (x := .inLoop c) rfl (fun _ _ => .inl (by simp)) harr⟩
  obtain ⟨m, hm⟩ := h₀
  obtain ⟨e, a', w', hq, harr⟩ := key m a w hm
  exact ⟨e, a', w', hq, .of_steps (.one step_loop) harr⟩
theorem AW.loop {c : Code} (I : Nat → St → Hp → Prop) (m : Nat) (h0 : I m s σ) (hr : ∀ m s σ, I m s σ → AW P n c (thenS (fun s' σ' => ∃ m', m' < m ∧ I m' s' σ') Q) s σ) : AW P n (.loop c) Q s σ :=
 fun B cx a w h1 h2 h3 => wp_loop_rel (fun m a w => ∃ cx s σ, SR B n cx s σ a w ∧ I m s σ) ⟨m, cx, s, σ, h3, h0⟩ fun m a w ⟨cx, s, σ, h4, h5⟩ =>
  wp_mono (hr m s σ h5 B cx a w h1 h2 h4) fun e a' w' ⟨cx', s', σ', h6, h7⟩ => by
   cases e with
   | normal => obtain ⟨m', hm, hI⟩ := h7; exact ⟨m', hm, cx', s', σ', h6, hI⟩
   | _ => exact ⟨cx', s', σ', h6, h7⟩
theorem AW.region (hT : T.ok P) (hsd : T.sd = fun _ => false) {id : Nat} {l : List Oper} (h : semL P T n (l.map (·.dst)) l (fun s σ => Q .normal s σ) s σ) : AW P n (.region id l.toArray false) Q s σ :=
 fun B cx a w _ h2 h3 => wp_region_lit (semL_sound hT (h2.trans hsd.symm) (ops := l.toArray) l h3 (fun a w ⟨cx, s, σ, h4, h5⟩ => ⟨cx, s, σ, h4, h5⟩) (by simpa using h))
theorem AW.draw (hT : T.ok P) (hm : P.follows .mixedOrders = true) {id : Nat} {l : List Oper} (sched : List (Nat × Nat)) (hlen : sched.length = l.length) (hs : Region.noSelect l.toArray = true)
  (hB : schedB P l.toArray sched true (Array.replicate l.length false) = true)
  (h : semD P T n l (l.map (·.dst)) sched (fun s σ => Q .normal s σ) s σ) : AW P n (.region id l.toArray true) Q s σ :=
 fun B cx a w h1 _ h3 => by
  have h4 := h3.drew
  have h5 := h4.toAt T.sd
  refine wp_mono (Q := onlyN (fun a w => QC B n Q .normal a w)) (wp_region_held (S := stillW (B.at cx s.l T.sd w.drew)) hm ?_) (fun e a w hq => by cases e <;> first | exact hq | exact hq.elim)
  have := semD_sound hT hs (Q := fun a w => QC B n Q .normal a w) (K := fun s σ => Q .normal s σ)
   sched true (Array.replicate l.length false) (B := B.at cx s.l T.sd w.drew) rfl (fun a w ⟨cx', s', σ', h6, h7⟩ => ⟨cx', s', σ', h6.ofAt h1, h7⟩) hB h5 (fun _ => ⟨fun g hg => .inl hg, fun d cells hd hl => .inr ⟨d, cells, hd, hl, rfl⟩⟩) (by simpa using h)
  rw [hlen] at this
  simpa using this
def enterS (args : List V) : St := ⟨fun t => args.getD t .junk, fun _ => none⟩
def resV (P : Program) (s : St) (σ : Hp) (k : V → Prop) : ResultVar → Prop
  | .tmp t => okV (s.t t) = true ∧ k (s.t t)
  | .cell p t => okT P t = true ∧ szT P t ≠ 0 ∧ (aggT P t = false → szT P t = 1) ∧ qLoad (aggT P t) (szT P t) s σ (fun v => okV v = true ∧ k v) (s.t p)
def resVs (P : Program) (s : St) (σ : Hp) : List ResultVar → (List V → Prop) → Prop
  | [], k => k []
  | r :: rs, k => resV P s σ (fun v => resVs P s σ rs (fun vs => k (v :: vs))) r
theorem SR.turn {B : Base} {cx : Cx} {a : Act} {w : World} {r : Nat} {o : Obj} (hB : B.plain) (h : SR B n cx s σ a w) (hr : B.w.heap.size ≤ r) (hf : ¬ foot cx σ s.l r) (hi : ¬ cx.I r) (hm : Marks cx (foot cx σ s.l) B.w (w.putObj r o) a.defers) :
  SR B n cx s σ a (w.putObj r o) := by
 have hb : ∀ g, g < w.heap.size → ¬ (g = r) → (w.putObj r o).heap[g]? = w.heap[g]? := fun g _ hg => World.putObj_heap_other hg
 have hH : HR cx σ (w.putObj r o) := h.heap.keep (.refl _) (fun g => g = r) (fun g hg ho => hf (by rw [← hg]; exact .inl ho)) (fun g hg hI => hi (by rw [← hg]; exact hI)) (fun g hg ho => h.heap.apart g ho hg) (fun g hg => by rw [World.putObj_size]; exact h.heap.ilt g hg) hb
 have himm : ∀ g, cx.I g → (w.putObj r o).heap[g]? = w.heap[g]? := fun g hg => World.putObj_heap_other (fun e => hi (by rw [← e]; exact hg))
 refine ⟨h.size, hm, h.nd, fun t => (h.tmp t).keep himm (.refl _) rfl, hH, ⟨fun d cells hd => ?_, h.box.apart, h.box.inj⟩, ⟨h.ext.os, h.ext.tape, h.ext.output, by rw [World.putObj_size]; exact h.ext.size, fun g hg hF => ?_, h.ext.le, h.ext.inew, h.ext.fnew⟩, h.gnew, h.onew, fun g hs => (hB.1 g hs).elim, fun g hs => (hB.1 g hs).elim, fun _ _ _ hs => (hB.1 _ hs).elim⟩
 ·obtain ⟨T, cs, h1, h2⟩ := h.box.box d cells hd
  exact ⟨T, cs, (World.putObj_heap_other (fun e => hf (.inr ⟨d, cells, hd, e⟩))).trans h1, h2.keep himm (.refl _)⟩
 ·exact (World.putObj_heap_other (fun e => by rw [e] at hg; omega)).trans (h.ext.block g hg hF)
theorem pair_head {α : Type} {d : α} {ds : List α} (h : (d :: ds).Pairwise (· ≠ ·)) : ∀ x ∈ ds, d ≠ x := (List.pairwise_cons.1 h).1
theorem SR.shut {B : Base} {cx : Cx} {tmps : Array Value} {d : Deferred} {ds : List Deferred} {w : World} (hB : B.plain) (h : SR B n cx s σ { tmps := tmps, defers := d :: ds } w) :
  ∃ D, d.target = .collected D ∧ w.heap[D]? = some (.deferred (some [])) ∧ SR B n cx s σ { tmps := tmps, defers := ds } (w.putObj D (.deferred none)) := by
 obtain ⟨hp, hm⟩ := h.defers
 obtain ⟨D, h1, h2, h3, h4, h5⟩ := hm d List.mem_cons_self
 have h0 : SR B n cx s σ { tmps := tmps, defers := ds } w := ⟨h.size, ⟨(List.pairwise_cons.1 hp).2, fun x hx => hm x (List.mem_cons_of_mem _ hx)⟩, (fun e => by rw [hB.2] at e; cases e), h.tmp, h.heap, h.box, h.ext, h.gnew, h.onew, h.stab, h.stN, h.stS⟩
 refine ⟨D, by rw [h1], h3, SR.turn hB h0 h2 h4 h5 ⟨(List.pairwise_cons.1 hp).2, fun x hx => ?_⟩⟩
 obtain ⟨E, k1, k2, k3, k4, k5⟩ := hm x (List.mem_cons_of_mem _ hx)
 exact ⟨E, k1, k2, (World.putObj_heap_other (fun e => pair_head hp x hx (by rw [h1, k1, e]))).trans k3, k4, k5⟩
theorem leavesM {B : Base} {cx : Cx} {fn : Func} {tmps : Array Value} {R : Ending → World → Prop} (hB : B.plain) : ∀ (ds : List Deferred) (w : World), SR B n cx s σ { tmps := tmps, defers := ds } w →
    (∀ w', SR B n cx s σ { tmps := tmps, defers := [] } w' → ∃ v, (results fn tmps).run P w' = .ok v w' ∧ R (.returned v) w') → LeavesInM Fence.wide 0 P fn tmps R ds .returning w
  | [], w, h, k => k w h
  | d :: ds, w, h, k => by
    obtain ⟨D, h1, h2, h3⟩ := h.shut hB
    exact ⟨fun e => (by cases e), .inl ⟨D, _, h1, run_takeDeferred h2, leavesM hB ds _ h3 k⟩⟩
theorem calls_of_wpM {f : FuncId} {fn : Func} {c : Code} {args : Array Value} {w : World} {R : Ending → World → Prop} (hf : P.funcs[f]? = some fn) (hb : fn.body = some c)
  (h : c.wp P (bodyPostM Fence.wide 0 P fn R) { tmps := args ++ Array.replicate (fn.ntmps - args.size) undef, defers := [] } w) : Calls P f args w R :=
 (callsIn_wide (n := 0)).1 (callsIn_of_wp_marks hf hb trivial (wpIn_wide.2 h))
end
end Go.Abs
namespace Go.Abs
open Go
section
variable {P : Program} {n : Nat} {s : St} {σ : Hp}
variable [Mode]
def retV (k : V → Prop) : List V → Prop
  | [v] => k (wk v)
  | vs => k (.tup (vs.map wk))
def retS (P : Program) (rs : List ResultVar) (R : V → Hp → Prop) : Exit → St → Hp → Prop
  | .normal, s, σ | .ret, s, σ => resVs P s σ rs (retV fun v => R v σ)
  | _, _, _ => False
def resF (tmps : Array Value) : ResultVar → Sem Value
  | .tmp t => pure (tmps.getD t undef)
  | .cell a t => do loadVar t (← asAddr (tmps.getD a undef))
theorem resV_run {B : Base} {cx : Cx} {a : Act} {w : World} (h : SR B n cx s σ a w) {k : V → Prop} {r : ResultVar} (hk : resV P s σ k r) :
    ∃ v x, k v ∧ VR w cx v x ∧ (resF a.tmps r).run P w = .ok x w := by
  cases r with
  | tmp t =>
    obtain ⟨h1, h2⟩ := hk
    exact ⟨_, _, h2, (h.tmp t).ok h1, rfl⟩
  | cell p t =>
    obtain ⟨h1, h2, h3, h4⟩ := hk
    obtain ⟨v, ⟨h5, h6⟩, hr⟩ := qLoad_sound h1 h2 h3 h4
    obtain ⟨y, b, o, hp, hy, hv, _⟩ := hr cx w _ h.heap h.box (h.tmp p)
    refine ⟨v, y, h6, hv.ok h5, ?_⟩
    have h7 := hy w rfl
    rw [hp] at h7
    simp only [Instr.loadAt, Instr.sureAddr, Sem.run_bind, Sem.run_pure, Result.andThen_ok] at h7
    simp only [resF, hp, asAddr, Sem.run_bind, Sem.run_pure, Result.andThen_ok, h7]
theorem resVs_run {B : Base} {cx : Cx} {a : Act} {w : World} (h : SR B n cx s σ a w) : ∀ {rs : List ResultVar} {k : List V → Prop}, resVs P s σ rs k →
    ∃ vs xs, k vs ∧ VAs w cx vs xs ∧ (rs.mapM (resF a.tmps)).run P w = .ok xs w
  | [], k, hk => ⟨[], [], hk, .nil, by simp [Sem.run_pure]⟩
  | r :: rs, k, hk => by
    obtain ⟨v, x, hk, hv, hr⟩ := resV_run h hk
    obtain ⟨vs, xs, hk, hvs, hrs⟩ := resVs_run h hk
    exact ⟨v :: vs, x :: xs, hk, .cons hv hvs, by simp [List.mapM_cons, Sem.run_bind, hr, hrs]⟩
def outV : List Value → Value
  | [x] => x
  | xs => .tuple ⟨xs⟩
theorem results_eq (fn : Func) (tmps : Array Value) : results fn tmps = (do let vs ← fn.results.mapM (resF tmps); pure (if h : vs.size = 1 then vs[0] else .tuple vs)) := by
 unfold results
 have e : (fun x => match x with | .tmp t => (pure (tmps.getD t undef) : Sem Value) | .cell a t => do loadVar t (← asAddr (tmps.getD a undef))) = resF tmps := by
  funext r; cases r <;> rfl
 exact congrArg (fun f => (do let vs ← fn.results.mapM f; pure (if h : vs.size = 1 then vs[0] else .tuple vs))) e
theorem results_run {fn : Func} {rs : List ResultVar} (hr : fn.results = ⟨rs⟩) (tmps : Array Value) (w : World) {xs : List Value} (h : (rs.mapM (resF tmps)).run P w = .ok xs w) :
  (results fn tmps).run P w = .ok (outV xs) w := by
 rw [results_eq, hr, List.mapM_toArray]
 simp only [Sem.run_bind, Sem.run_map, h, Result.andThen_ok]
 match xs with
 | [] => rfl
 | [x] => rfl
 | x :: y :: xs => simp [outV]
theorem retV_out {w : World} {cx : Cx} {vs : List V} {xs : List Value} {k : V → Prop} (hv : VAs w cx vs xs) (hk : retV k vs) : ∃ v, k v ∧ VR w cx v (outV xs) := by
 have hl := hv.1
 have tup : VR w cx (.tup (vs.map wk)) (.tuple ⟨xs⟩) := .tup hv.wk.1 hv.wk.2
 match vs, xs with
 | [], [] => exact ⟨_, hk, tup⟩
 | [v], [x] => exact ⟨_, hk, wk_VR (hv.2 0 v x rfl rfl)⟩
 | v :: u :: vs, x :: y :: xs => exact ⟨_, hk, tup⟩
 | [], x :: xs => simp at hl
 | [v], [] => simp at hl
 | [v], x :: y :: xs => simp at hl
 | v :: u :: vs, [] => simp at hl
 | v :: u :: vs, [x] => simp at hl
theorem ACalls.intro {f : FuncId} {fn : Func} {c : Code} {rs : List ResultVar} {args : List V} {R : V → Hp → Prop}
  (hcall : ∀ (xs : Array Value) (w : World), (callFunc f xs).run P w = .ok (.enter f xs) w)
  (hf : P.funcs[f]? = some fn) (hb : fn.body = some c) (hn : fn.ntmps = n) (hr : fn.results = ⟨rs⟩) (hl : args.length ≤ n)
  (h : AW P n c (retS P rs R) (enterS args) σ) : ACalls P f args σ R := by
 refine ⟨hcall, fun cx w xs hH ha => calls_of_wpM hf hb ?_⟩
 have hlx : xs.length ≤ n := by rw [← ha.1]; exact hl
 let B : Base := { cx := cx, F := σ.own cx, w := w, g := fun k => ∃ y, σ.gr k = some y, o := fun g => ∃ y, σ.obj g = some y }
 have hfoot : foot cx σ (fun _ => none) = σ.own cx := by
  funext g
  refine propext ⟨fun hg => ?_, fun hg => .inl hg⟩
  rcases hg with hg | ⟨d, c, hd, _⟩
  ·exact hg
  ·cases hd
 have hSR : SR B n cx (enterS args) σ { tmps := (⟨xs⟩ : Array Value) ++ Array.replicate (fn.ntmps - xs.length) undef, defers := [] } w := by
  refine ⟨by simp [hn]; omega, Marks.nil, fun _ => rfl, fun t => ?_, hH, ⟨fun d c hd => (by cases hd), fun d c hd => (by cases hd), fun d e c c' hd => (by cases hd)⟩, ?_, fun k x hk => .inl ⟨x, hk⟩, fun g x hk => .inl ⟨x, hk⟩, fun g hs => hs.elim, fun g hs => hs.elim, fun d c hd => (by cases hd)⟩
  ·show TR w cx (args.getD t .junk) _
   by_cases ht : t < args.length
   ·have h1 : args[t]? = some args[t] := List.getElem?_eq_getElem ht
    have htx : t < xs.length := by rw [← ha.1]; exact ht
    have h2 : xs[t]? = some xs[t] := List.getElem?_eq_getElem htx
    have h3 := ha.2 t _ _ h1 h2
    have e1 : args.getD t .junk = args[t] := by simp [List.getD, h1]
    have e2 : ((⟨xs⟩ : Array Value) ++ Array.replicate (fn.ntmps - xs.length) undef).getD t undef = xs[t] := by
     simp [Array.getD_eq_getD_getElem?, Array.getElem?_append, htx]
    rw [e1]
    show TR w cx _ (((⟨xs⟩ : Array Value) ++ Array.replicate (fn.ntmps - xs.length) undef).getD t undef)
    rw [e2]
    exact .v h3
   ·have e1 : args.getD t .junk = .junk := by simp [List.getD, List.getElem?_eq_none (Nat.le_of_not_lt ht)]
    rw [e1]; exact .junk _
  ·show Ext cx (σ.own cx) w cx (foot cx σ fun _ => none) w
   rw [hfoot]; exact .refl _ _ _
 have fin : ∀ (e : Exit) (a : Act) (w' : World), QC B n (retS P rs R) e a w' → bodyPostM Fence.wide 0 P fn (fun e w' => ∃ v r cx' σ', e = .returned r ∧ VR w' cx' v r ∧ Left cx σ w cx' σ' w' ∧ R v σ') e a w' := fun e a w' ⟨cx', s', σ', h1, h2⟩ => by
  have key : resVs P s' σ' rs (retV fun v => R v σ') → LeavesInM Fence.wide 0 P fn a.tmps (fun e w' => ∃ v r cx' σ', e = .returned r ∧ VR w' cx' v r ∧ Left cx σ w cx' σ' w' ∧ R v σ') a.defers .returning w' := fun h2 =>
   leavesM ⟨fun g hg => hg, rfl⟩ a.defers w' h1 fun w'' h1 => by
    obtain ⟨vs, ys, h3, h4, h5⟩ := resVs_run h1 h2
    obtain ⟨u, h6, h7⟩ := retV_out h4 h3
    refine ⟨outV ys, results_run hr _ _ h5, u, _, cx', σ', rfl, h7, ⟨h1.heap, ?_, h1.gnew, h1.onew⟩, h6⟩
    have he := h1.ext
    exact ⟨he.os, he.tape, he.output, he.size, he.block, he.le, he.inew, fun g hg => he.fnew g (.inl hg)⟩
  cases e with
  | normal => exact key h2
  | ret => exact key h2
  | _ => exact h2.elim
 exact wp_mono (h B cx _ w ⟨fun g hg => hg, rfl⟩ rfl hSR) fin
theorem PCalls.intro {f : FuncId} {fn : Func} {c : Code} {rs : List ResultVar} {args : List V} {R : V → Prop}
  (hcall : ∀ (xs : Array Value) (w : World), (callFunc f xs).run P w = .ok (.enter f xs) w)
  (hf : P.funcs[f]? = some fn) (hb : fn.body = some c) (hn : fn.ntmps = n) (hr : fn.results = ⟨rs⟩) (hl : args.length ≤ n)
  (h : AW P n c (retS P rs fun v σ' => σ' = Hp.empty ∧ R v) (enterS args) Hp.empty) : PCalls P f args R := ACalls.intro hcall hf hb hn hr hl h
end
end Go.Abs
namespace Go.Abs
open Go
@[simp] theorem St.put_t (s : St) (d : Nat) (v : V) (x : Nat) : (s.put d v).t x = if x = d then v else s.t x := rfl
@[simp] theorem St.put_l (s : St) (d : Nat) (v : V) : (s.put d v).l = s.l := rfl
@[simp] theorem St.new_t (s : St) (d : Nat) (c : List V) (x : Nat) : (s.new d c).t x = if x = d then .lp d 0 else kill d (s.t x) := rfl
@[simp] theorem St.new_l (s : St) (d : Nat) (c : List V) (x : Nat) : (s.new d c).l x = if x = d then some c else s.l x := rfl
@[simp] theorem St.setl_t (s : St) (d : Nat) (c : List V) (x : Nat) : (s.setl d c).t x = s.t x := rfl
@[simp] theorem St.setl_l (s : St) (d : Nat) (c : List V) (x : Nat) : (s.setl d c).l x = if x = d then some c else s.l x := rfl
theorem enterS_t (args : List V) (t : Nat) : (enterS args).t t = args.getD t .junk := rfl
theorem enterS_l (args : List V) (t : Nat) : (enterS args).l t = none := rfl
section
variable {P : Program} {T : Tab} {n : Nat} {s : St} {σ : Hp} {Q Q' : Exit → St → Hp → Prop}
variable [Mode]
theorem AW.seq_j {x y : Code} (J : St → Hp → Prop) (h : AW P n x (thenS J Q) s σ) (hy : ∀ s σ, J s σ → AW P n y Q s σ) : AW P n (.seq x y) Q s σ :=
 .seq (h.mono fun e s σ h => by cases e <;> first | exact hy s σ h | exact h)
theorem AW.reg0 {id : Nat} {l : List Oper} (h : semL P {} n (l.map (·.dst)) l (fun s σ => Q .normal s σ) s σ) : AW P n (.region id l.toArray false) Q s σ :=
 .region (T := {}) (fun _ _ h => by cases h) rfl h
theorem gate_some {ds : List (Option Nat)} {j d : Nat} {want : Bool} {yes no : Prop} {b : Bool} (hd : ds[j]? = some (some d)) (hb : s.t d = .c (.bool b)) : gate ds s (some (j, want)) yes no = if b = want then yes else no := by
 simp [gate, hd, hb]
theorem retS_normal {rs : List ResultVar} {R : V → Hp → Prop} : retS P rs R .normal s σ = resVs P s σ rs (retV fun v => R v σ) := rfl
theorem retS_ret {rs : List ResultVar} {R : V → Hp → Prop} : retS P rs R .ret s σ = resVs P s σ rs (retV fun v => R v σ) := rfl
theorem thenS_normal {K : St → Hp → Prop} : thenS K Q .normal s σ = K s σ := rfl
theorem thenS_ret {K : St → Hp → Prop} : thenS K Q .ret s σ = Q .ret s σ := rfl
theorem thenS_exit {K : St → Hp → Prop} {i : Nat} : thenS K Q (.exit i) s σ = Q (.exit i) s σ := rfl
theorem inBlockS_normal {i : Nat} : inBlockS i Q .normal s σ = Q .normal s σ := rfl
theorem inBlockS_ret {i : Nat} : inBlockS i Q .ret s σ = Q .ret s σ := rfl
theorem inBlockS_exit {i j : Nat} : inBlockS i Q (.exit j) s σ = if j = i then Q .normal s σ else Q (.exit j) s σ := rfl
theorem St.ext {s s' : St} (h1 : s.t = s'.t) (h2 : s.l = s'.l) : s = s' := by cases s; cases s'; simp_all
theorem S.go {ds : List (Option Nat)} {o : Oper} {r : List Oper} {K : St → Hp → Prop} (hd : dOK n o.dst) (hg : o.guard = none)
  (h : ∀ K' : St → Hp → Prop, (∀ s σ, semL P T n ds r K s σ → K' s σ) → semOp P T o K' s σ) : semL P T n ds (o :: r) K s σ :=
 ⟨hd, by rw [hg]; exact h _ fun _ _ h => h⟩
theorem S.yes {ds : List (Option Nat)} {o : Oper} {r : List Oper} {K : St → Hp → Prop} {j d : Nat} {b : Bool} (hd : dOK n o.dst) (hg : o.guard = some (j, b)) (hj : ds[j]? = some (some d)) (hb : s.t d = .c (.bool b))
  (h : ∀ K' : St → Hp → Prop, (∀ s σ, semL P T n ds r K s σ → K' s σ) → semOp P T o K' s σ) : semL P T n ds (o :: r) K s σ :=
 ⟨hd, by rw [hg, gate_some hj hb, if_pos rfl]; exact h _ fun _ _ h => h⟩
theorem S.no {ds : List (Option Nat)} {o : Oper} {r : List Oper} {K : St → Hp → Prop} {j d : Nat} {b : Bool} (hd : dOK n o.dst) (hg : o.guard = some (j, b)) (hj : ds[j]? = some (some d)) (hb : s.t d = .c (.bool (!b)))
  (h : ∀ K' : St → Hp → Prop, (∀ s σ, semL P T n ds r K s σ → K' s σ) → K' (s.putO o.dst (.c undef)) σ) : semL P T n ds (o :: r) K s σ :=
 ⟨hd, by rw [hg, gate_some hj hb, if_neg (by cases b <;> simp)]; exact h _ fun _ _ h => h⟩
theorem S.un {ds : List (Option Nat)} {o : Oper} {r : List Oper} {K : St → Hp → Prop} {j d : Nat} {b : Bool} (hd : dOK n o.dst) (hg : o.guard = some (j, b)) (hj : ds[j]? = some (some d)) (hb : s.t d = .c undef)
  (h : ∀ K' : St → Hp → Prop, (∀ s σ, semL P T n ds r K s σ → K' s σ) → K' (s.putO o.dst (.c undef)) σ) : semL P T n ds (o :: r) K s σ :=
 ⟨hd, by rw [hg]; simp only [gate, hj, hb, undef]; exact h _ fun _ _ h => h⟩
theorem S.bool {K : St → Hp → Prop} {d : Nat} {x : Bool} (h : ∀ b, x = b → K (s.put d (.c (.bool b))) σ) : K (s.put d (.c (.bool x))) σ := h x rfl
theorem S.nil {ds : List (Option Nat)} {K : St → Hp → Prop} (h : K s σ) : semL P T n ds [] K s σ := h
end
end Go.Abs
namespace Go.Abs
open Go
def fz1 (k : Nat) (es : List (List V)) : V → V
  | .gl j => if j = k then .sl es else .gl j
  | v => v
def fzV (k : Nat) (es : List (List V)) : V → V
  | .agg vs => .agg (vs.map (fz1 k es))
  | v => fz1 k es v
def St.fz (s : St) (k : Nat) (es : List (List V)) : St := ⟨fun t => fzV k es (s.t t), fun d => (s.l d).map fun cs => cs.map (fz1 k es)⟩
@[simp] theorem St.fz_t (s : St) (k : Nat) (es : List (List V)) (t : Nat) : (s.fz k es).t t = fzV k es (s.t t) := rfl
@[simp] theorem St.fz_l (s : St) (k : Nat) (es : List (List V)) (d : Nat) : (s.fz k es).l d = (s.l d).map fun cs => cs.map (fz1 k es) := rfl
section
variable {P : Program} {B : Base} {n : Nat} {cx : Cx} {s : St} {σ : Hp} {a : Act} {w : World} {Q : Exit → St → Hp → Prop}
variable [Mode]
theorem HR.freeze (h : HR cx σ w) {k : Nat} {T : TypeId × Nat} {es : List (List V)} (hk : σ.gr k = some (T, es)) :
  ∃ cx', cx.le cx' ∧ cx'.L = cx.L ∧ (∀ g, cx'.I g → cx.I g ∨ (cx.M k).ownBlock = some g) ∧ HR cx' (σ.setGr k none) w ∧ VR w cx' (.sl es) (cx.M k) := by
 have sub : HR cx (σ.setGr k none) w := h.sub (fun _ _ h => h) (fun j x hj => by
  by_cases e : j = k
  ·simp [Hp.setGr, e] at hj
  ·simpa [Hp.setGr, e] using hj)
 obtain ⟨hkn, hZ, hel, xs, hown, hxs⟩ := h.gr k T es hk
 rcases hown.2 with ⟨hM, h0⟩ | ⟨g, cap, cur, hM, _, hbl, hcap, _, hcs, htk⟩
 ·have : es = [] := List.eq_nil_of_length_eq_zero h0
  subst this
  exact ⟨cx, .refl _, rfl, fun g hg => .inl hg, sub, by rw [hM]; exact .nils⟩
 ·have hg : (cx.M k).ownBlock = some g := by rw [hM]; rfl
  have hno : ¬ (σ.setGr k none).own cx g := by
   rintro (⟨c, hc⟩ | ⟨j, x, hj, hb⟩)
   ·exact h.mix k _ g c hk hc hg
   ·by_cases e : j = k
    ·simp [Hp.setGr, e] at hj
    ·simp only [Hp.setGr, e, if_false] at hj
     exact e (h.two j k x _ g hj hk hb hg)
  refine ⟨cx.addI g, cx.le_addI g, rfl, fun g' hg' => (show cx.I g' ∨ g' = g from hg').imp id (fun e => by rw [e]; exact hg), ?_, ?_⟩
  ·exact sub.keep (cx.le_addI g) (fun _ => False) (fun _ h => h.elim) (fun _ h => h.elim) (fun g' (hg' : cx.I g' ∨ g' = g) ho => by
     rcases hg' with h1 | h1
     ·exact sub.apart g' ho h1
     ·exact hno (h1 ▸ ho))
    (fun g' (hg' : cx.I g' ∨ g' = g) => by
     rcases hg' with h1 | h1
     ·exact h.ilt g' h1
     ·rw [h1]; exact lt_of_block hbl) (fun _ _ _ => rfl)
  ·rw [hM]
   refine VR.sl_of_row (.inr rfl) hcap hel (hxs.keep (fun _ _ => rfl) (cx.le_addI g)) (fun j x hj => ?_)
   rw [cell_of_row w g (0 + j) cur _ _ hbl, Nat.zero_add]
   have hj' : xs[j]? = (cur.toList.take (es.length * cx.Z k))[j]? := by rw [htk]
   rw [hj'] at hj
   rw [List.getElem?_take] at hj
   split at hj
   ·simpa using hj
   ·cases hj
theorem fz1_VR {cx' : Cx} (hle : cx.le cx') {k : Nat} {es : List (List V)} (hv : VR w cx' (.sl es) (cx.M k)) {v : V} {x : Value} (h : VR w cx v x) : VR w cx' (fz1 k es v) x := by
 unfold fz1
 split
 ·rename_i j
  by_cases e : j = k
  ·rw [if_pos e]; subst e
   cases h
   exact hv
  ·rw [if_neg e]; exact h.keep (fun _ _ => rfl) hle
 ·exact h.keep (fun _ _ => rfl) hle
theorem fzs_VRs {cx' : Cx} (hle : cx.le cx') {k : Nat} {es : List (List V)} (hv : VR w cx' (.sl es) (cx.M k)) {vs : List V} {xs : List Value} (h : VRs w cx vs xs) : VRs w cx' (vs.map (fz1 k es)) xs :=
 ⟨by simpa using h.1, h.2.1, fun i v x hi hx => by
  simp only [List.getElem?_map, Option.map_eq_some_iff] at hi
  obtain ⟨u, hu, rfl⟩ := hi
  exact fz1_VR hle hv (h.2.2 i u x hu hx)⟩
theorem fzV_VR {cx' : Cx} (hle : cx.le cx') {k : Nat} {es : List (List V)} (hv : VR w cx' (.sl es) (cx.M k)) {v : V} {x : Value} (h : VR w cx v x) : VR w cx' (fzV k es v) x := by
  unfold fzV
  split
  · cases h with
    | agg h1 hn hh =>
      have := fzs_VRs hle hv ⟨hn, h1, hh⟩
      exact .agg this.2.1 this.1 this.2.2
  · exact fz1_VR hle hv h
theorem SR.freeze (h : SR B n cx s σ a w) {k : Nat} {T : TypeId × Nat} {es : List (List V)} (hk : σ.gr k = some (T, es)) : ∃ cx', SR B n cx' (s.fz k es) (σ.setGr k none) a w := by
 obtain ⟨cx', hle, hL, hI, hH, hv⟩ := h.heap.freeze hk
 have own' : ∀ g, (σ.setGr k none).own cx' g → σ.own cx g := fun g hg => by
  rcases hg with ⟨c, hc⟩ | ⟨j, x, hj, hb⟩
  ·exact .inl ⟨c, hc⟩
  ·by_cases e : j = k
   ·simp [Hp.setGr, e] at hj
   ·simp only [Hp.setGr, e, if_false] at hj
    exact .inr ⟨j, x, hj, by rw [← hle.M j (h.heap.gr j x.1 x.2 hj).1]; exact hb⟩
 have h1 : SR B n cx' s (σ.setGr k none) a w := h.heapstep hle hL (fun g hg => (hI g hg).imp id (fun e => .inl (.inr ⟨k, _, hk, e⟩))) (fun g hg => .inl (own' g hg)) rfl rfl ⟨rfl, fun _ => Nat.le_refl _⟩ (Nat.le_refl _) (fun _ _ _ => rfl) hH
  (fun j x hj => by
   by_cases e : j = k
   ·simp [Hp.setGr, e] at hj
   ·simp only [Hp.setGr, e, if_false] at hj; exact .inl ⟨x, hj⟩) (fun g x hx => .inl ⟨x, hx⟩)
 have hfe : foot cx' (σ.setGr k none) (s.fz k es).l = foot cx' (σ.setGr k none) s.l := by
  funext g
  refine propext (or_congr Iff.rfl ⟨fun ⟨d, c, hd, e⟩ => ?_, fun ⟨d, c, hd, e⟩ => ⟨d, c.map (fz1 k es), by simp [hd], e⟩⟩)
  simp only [St.fz_l, Option.map_eq_some_iff] at hd
  obtain ⟨c, hc, rfl⟩ := hd
  exact ⟨d, c, hc, e⟩
 refine ⟨cx', h1.size, by rw [hfe]; exact h1.defers, h1.nd, fun t => ?_, h1.heap, ⟨fun d cells hd => ?_, fun d cells hd => ?_, fun d e c c' hd he => ?_⟩, ?_, h1.gnew, h1.onew, h1.stab, h1.stN, fun d c hd => ?_⟩
 ·have ht := h.tmp t
  show TR w cx' (fzV k es (s.t t)) _
  generalize s.t t = v at ht
  generalize a.tmps.getD t undef = x at ht
  cases ht with
  | v hv' => exact .v (fzV_VR hle hv hv')
  | lp d off => rw [← hL]; exact .lp d off
  | junk => exact .junk _
 ·simp only [St.fz_l, Option.map_eq_some_iff] at hd
  obtain ⟨c, hc, rfl⟩ := hd
  obtain ⟨T', cs, h2, h3⟩ := h.box.box d c hc
  rw [hL]
  exact ⟨T', cs, h2, fzs_VRs hle hv h3⟩
 ·simp only [St.fz_l, Option.map_eq_some_iff] at hd
  obtain ⟨c, hc, rfl⟩ := hd
  exact h1.box.apart d c hc
 ·simp only [St.fz_l, Option.map_eq_some_iff] at hd he
  obtain ⟨c, hc, rfl⟩ := hd
  obtain ⟨c', hc', rfl⟩ := he
  exact h1.box.inj d e c c' hc hc'
 ·have e : foot cx' (σ.setGr k none) (s.fz k es).l = foot cx' (σ.setGr k none) s.l := by
   funext g
   refine propext (or_congr Iff.rfl ⟨fun ⟨d, c, hd, e⟩ => ?_, fun ⟨d, c, hd, e⟩ => ⟨d, c.map (fz1 k es), by simp [hd], e⟩⟩)
   simp only [St.fz_l, Option.map_eq_some_iff] at hd
   obtain ⟨c, hc, rfl⟩ := hd
   exact ⟨d, c, hc, e⟩
  rw [e]; exact h1.ext
 ·simp only [St.fz_l, Option.map_eq_some_iff] at hd
  obtain ⟨c, hc, rfl⟩ := hd
  exact h1.stS d c hc
theorem AW.freeze {c : Code} {k : Nat} {T : TypeId × Nat} {es : List (List V)} (hk : σ.gr k = some (T, es)) (h : AW P n c Q (s.fz k es) (σ.setGr k none)) : AW P n c Q s σ :=
 fun B _ a w h1 h2 h3 => by
  obtain ⟨cx', h4⟩ := h3.freeze hk
  exact h B cx' a w h1 h2 h4
theorem Hp.set_none {k : Nat} {x : (TypeId × Nat) × List (List V)} (h : σ.gr k = none) : (σ.setGr k (some x)).setGr k none = σ := by
  cases σ with
  | mk o g =>
    simp only [Hp.setGr, Hp.mk.injEq, true_and]
    funext j
    by_cases e : j = k
    · simp only [e, if_true]; exact h.symm
    · simp only [e, if_false]
end
end Go.Abs
namespace Go.Abs
open Go
section
variable {P : Program} {σ : Hp}
variable [Mode]
theorem PCalls.lend {f : FuncId} {args : List V} {R : V → Prop} {k : Nat} {T : TypeId × Nat} {es : List (List V)} (h : PCalls P f (args.map (fzV k es)) R) (hk : σ.gr k = some (T, es)) (hR : ∀ v, R v → ∃ u, v = .c u) :
  ACalls P f args σ (fun v σ' => σ' = σ ∧ R v) := by
 refine ⟨h.1, fun cx w xs hH ha => ?_⟩
 obtain ⟨cx1, hle, hL, hI, hH1, hv1⟩ := hH.freeze hk
 have ha1 : VAs w cx1 (args.map (fzV k es)) xs := ⟨by simpa using ha.1, fun i v x hi hx => by
  simp only [List.getElem?_map, Option.map_eq_some_iff] at hi
  obtain ⟨u, hu, rfl⟩ := hi
  exact fzV_VR hle hv1 (ha.2 i u x hu hx)⟩
 refine (h.2 cx1 w xs (hH1.sub (fun _ _ h => by cases h) (fun _ _ h => by cases h)) ha1).mono fun e w' ⟨v, r, cx2, σ2, h1, h2, h3, h4, h5⟩ => ?_
 subst h4
 obtain ⟨u, rfl⟩ := hR v h5
 have hb : ∀ g, g < w.heap.size → w'.heap[g]? = w.heap[g]? := fun g hg => h3.ext.block g hg own_empty
 refine ⟨_, r, cx, σ, h1, ?_, ⟨hH.new (.refl _) (fun g hg => .inl hg) h3.ext.size hb, ⟨h3.ext.os, h3.ext.tape, h3.ext.output, h3.ext.size, fun g hg _ => hb g hg, .refl _, fun g hg => .inl hg, fun g hg => .inl hg⟩, fun _ x hk => .inl ⟨x, hk⟩, fun _ x hk => .inl ⟨x, hk⟩⟩, rfl, h5⟩
 cases h2
 exact .c _
theorem SR.sub {B : Base} {n : Nat} {cx : Cx} {s : St} {σ' : Hp} {a : Act} {w : World} (h : SR B n cx s σ a w) (ho : ∀ g x, σ'.obj g = some x → σ.obj g = some x) (hg : ∀ k x, σ'.gr k = some x → σ.gr k = some x) : SR B n cx s σ' a w :=
 h.heapstep (.refl _) rfl (fun _ hg => .inl hg) (fun _ hg' => .inl (own_sub ho hg hg')) rfl rfl ⟨rfl, fun _ => Nat.le_refl _⟩ (Nat.le_refl _) (fun _ _ _ => rfl) (h.heap.sub ho hg) (fun k x hk => .inl ⟨x, hg k x hk⟩) (fun g x hx => .inl ⟨x, ho g x hx⟩)
theorem AW.sub {n : Nat} {c : Code} {s : St} {σ' : Hp} {Q : Exit → St → Hp → Prop} (ho : ∀ g x, σ'.obj g = some x → σ.obj g = some x) (hg : ∀ k x, σ'.gr k = some x → σ.gr k = some x) (h : AW P n c Q s σ') : AW P n c Q s σ :=
 fun B cx a w h1 h2 h3 => h B cx a w h1 h2 (h3.sub ho hg)
theorem AW.bare {n : Nat} {c : Code} {s : St} {Q : Exit → St → Hp → Prop} (h : AW P n c Q s Hp.empty) : AW P n c Q s σ := .sub (fun _ _ h => by cases h) (fun _ _ h => by cases h) h
@[simp] theorem Hp.setObj_obj (σ : Hp) (g : Nat) (x : Option (List V)) (j : Nat) : (σ.setObj g x).obj j = if j = g then x else σ.obj j := rfl
@[simp] theorem Hp.setObj_gr (σ : Hp) (g : Nat) (x : Option (List V)) (j : Nat) : (σ.setObj g x).gr j = σ.gr j := rfl
@[simp] theorem Hp.setGr_gr (σ : Hp) (g : Nat) (x : Option ((TypeId × Nat) × List (List V))) (j : Nat) : (σ.setGr g x).gr j = if j = g then x else σ.gr j := rfl
@[simp] theorem Hp.setGr_obj (σ : Hp) (g : Nat) (x : Option ((TypeId × Nat) × List (List V))) (j : Nat) : (σ.setGr g x).obj j = σ.obj j := rfl
@[simp] theorem Hp.setObj_setObj (σ : Hp) (g : Nat) (x y : Option (List V)) : (σ.setObj g x).setObj g y = σ.setObj g y := by
  simp only [Hp.setObj, Hp.mk.injEq, and_true]
  funext j
  by_cases e : j = g <;> simp [e]
@[simp] theorem Hp.setGr_setGr (σ : Hp) (g : Nat) (x y : Option ((TypeId × Nat) × List (List V))) : (σ.setGr g x).setGr g y = σ.setGr g y := by
  simp only [Hp.setGr, Hp.mk.injEq, true_and]
  funext j
  by_cases e : j = g <;> simp [e]
@[simp] theorem Hp.empty_setGr (k : Nat) : Hp.empty.setGr k none = Hp.empty := by
  simp only [Hp.setGr, Hp.empty, Hp.mk.injEq, true_and]
  funext j
  by_cases e : j = k <;> simp [e]
@[simp] theorem Hp.empty_setObj (k : Nat) : Hp.empty.setObj k none = Hp.empty := by
  simp only [Hp.setObj, Hp.empty, Hp.mk.injEq, and_true]
  funext j
  by_cases e : j = k <;> simp [e]
theorem ACalls.to {f : FuncId} {args : List V} {R R' : V → Hp → Prop} (h : ACalls P f args σ R) (hr : ∀ v σ', R v σ' → R' v σ') : ACalls P f args σ R' := h.mono hr
theorem PCalls.to {f : FuncId} {args : List V} {R : V → Prop} {R' : V → Hp → Prop} (h : PCalls P f args R) (hr : ∀ v, R v → R' v σ) : ACalls P f args σ R' :=
 (h.at σ).mono fun v σ' ⟨h1, h2⟩ => by subst h1; exact hr v h2
theorem PCalls.eqto {f : FuncId} {args : List V} {u : V} {R' : V → Hp → Prop} (h : PCalls P f args (fun v => v = u)) (hr : R' u σ) : ACalls P f args σ R' := h.to fun v e => by subst e; exact hr
end
end Go.Abs
