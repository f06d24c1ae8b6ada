
import Derived.Test.YtmhamgllanihoaaMi
namespace Go.Abs.M
open Go Go.Abs Go.Proofs
set_option linter.unusedSimpArgs false

theorem minL_snoc (a : Int) (r : List Int) (b : Int) : minL a (r ++ [b]) = if b < minL a r then b else minL a r := by unfold minL; rw [List.foldl_append]; rfl
theorem maxL_snoc (a : Int) (r : List Int) (b : Int) : maxL a (r ++ [b]) = if maxL a r < b then b else maxL a r := by unfold maxL; rw [List.foldl_append]; rfl
theorem begin_snoc (p : List Bd) (b : Bd) : beginOf (p ++ [b]) = if p = [] then b.ev.time else if b.ev.time < beginOf p then b.ev.time else beginOf p := by
  cases p with
  | nil => rfl
  | cons x p => simp [beginOf, minL_snoc]
theorem end_snoc (p : List Bd) (b : Bd) : endOf (p ++ [b]) = if p = [] then b.ev.time else if endOf p < b.ev.time then b.ev.time else endOf p := by
  cases p with
  | nil => rfl
  | cons x p => simp [endOf, maxL_snoc]
def inI64 (n : Int) : Prop := -9223372036854775808 ≤ n ∧ n ≤ 9223372036854775807
theorem minL_mem (a : Int) (r : List Int) : minL a r ∈ a :: r := by
  induction r generalizing a with
  | nil => simp [minL]
  | cons b r ih =>
    simp only [minL, List.foldl_cons] at ih ⊢
    have := ih (if b < a then b else a)
    split at this
    · rename_i h; rw [if_pos h]
      exact List.mem_cons_of_mem _ this
    · rename_i h; rw [if_neg h]
      rcases List.mem_cons.1 this with h1 | h1
      · rw [h1]; exact List.mem_cons_self
      · exact List.mem_cons_of_mem _ (List.mem_cons_of_mem _ h1)
theorem maxL_mem (a : Int) (r : List Int) : maxL a r ∈ a :: r := by
  induction r generalizing a with
  | nil => simp [maxL]
  | cons b r ih =>
    simp only [maxL, List.foldl_cons] at ih ⊢
    have := ih (if a < b then b else a)
    split at this
    · rename_i h; rw [if_pos h]
      exact List.mem_cons_of_mem _ this
    · rename_i h; rw [if_neg h]
      rcases List.mem_cons.1 this with h1 | h1
      · rw [h1]; exact List.mem_cons_self
      · exact List.mem_cons_of_mem _ (List.mem_cons_of_mem _ h1)
theorem minL_le (a : Int) (r : List Int) : minL a r ≤ a := by
  induction r generalizing a with
  | nil => simp [minL]
  | cons b r ih =>
    simp only [minL, List.foldl_cons] at ih ⊢
    have := ih (if b < a then b else a)
    split at this
    · rename_i h; rw [if_pos h]; omega
    · rename_i h; rw [if_neg h]; omega
theorem le_maxL (a : Int) (r : List Int) : a ≤ maxL a r := by
  induction r generalizing a with
  | nil => simp [maxL]
  | cons b r ih =>
    simp only [maxL, List.foldl_cons] at ih ⊢
    have := ih (if a < b then b else a)
    split at this
    · rename_i h; rw [if_pos h]; omega
    · rename_i h; rw [if_neg h]; omega
theorem begin_le_end (l : List Bd) : beginOf l ≤ endOf l := by
  cases l with
  | nil => simp [beginOf, endOf]
  | cons x l => exact Int.le_trans (minL_le _ _) (le_maxL _ _)
theorem begin_in {l : List Bd} (h : ∀ b ∈ l, inI64 b.ev.time) : inI64 (beginOf l) := by
  cases l with
  | nil => simp [beginOf, inI64]
  | cons x l =>
    have := minL_mem x.ev.time (l.map (·.ev.time))
    show inI64 (minL _ _)
    rw [show x.ev.time :: l.map (·.ev.time) = (x :: l).map (·.ev.time) from rfl] at this
    obtain ⟨b, hb, e⟩ := List.mem_map.1 this
    rw [← e]; exact h b hb
theorem end_in {l : List Bd} (h : ∀ b ∈ l, inI64 b.ev.time) : inI64 (endOf l) := by
  cases l with
  | nil => simp [endOf, inI64]
  | cons x l =>
    have := maxL_mem x.ev.time (l.map (·.ev.time))
    show inI64 (maxL _ _)
    rw [show x.ev.time :: l.map (·.ev.time) = (x :: l).map (·.ev.time) from rfl] at this
    obtain ⟨b, hb, e⟩ := List.mem_map.1 this
    rw [← e]; exact h b hb
theorem wrapI (n : Int) (h0 : -9223372036854775808 ≤ n) (h1 : n ≤ 9223372036854775807) : IntKind.i64.wrap n = n := by
  simp [IntKind.wrap, IntKind.signed, IntKind.bits, Int.bmod]; omega
def withinB (l : List Bd) (w : Int) : Bool := decide (0 ≤ w ∧ endOf l - beginOf l ≤ w)
end Go.Abs.M
namespace Go.Abs.M
open Go Go.Abs Go.Proofs
set_option linter.unusedSimpArgs false
set_option maxRecDepth 20000

theorem co48 : Try.prog.cellsOf 48 = 1 := by kernel_rfl
theorem co5 : Try.prog.cellsOf 5 = 1 := by kernel_rfl
theorem by24' : Try.prog.bytesOf 24 = 24 := by kernel_rfl
theorem inI64_of {x : Int} (h : (Lit.int .i64 x).wf = true) : inI64 x := by
  simp [Lit.wf, IntKind.min, IntKind.max, IntKind.signed, IntKind.bits] at h
  unfold inI64; omega
theorem ev_time {n : Nat} {e : Ev} (h : Fit Try.prog n 36 (encEv e)) : inI64 e.time := by
  obtain ⟨_, m, _, hf⟩ := h.st Try.underlying36
  have h1 : Fit Try.prog m 2 (((encEv e).drop 2).take (Try.prog.cellsOf 2)) := hf 1 _ rfl
  rw [co2] at h1
  obtain ⟨x, hx, hw⟩ := h1.int Try.underlying2
  simp [encEv] at hx
  rw [hx]; exact inI64_of hw
theorem bd_time {n : Nat} {b : Bd} (h : Fit Try.prog n 42 (encBd b)) : inI64 b.ev.time := by
  obtain ⟨_, m, _, hf⟩ := h.st Try.underlying42
  have h1 : Fit Try.prog m 36 (((encBd b).drop 1).take (Try.prog.cellsOf 36)) := hf 1 _ rfl
  have h2 : ((encBd b).drop 1).take (Try.prog.cellsOf 36) = encEv b.ev := by rw [co36]; rfl
  rw [h2] at h1
  exact ev_time h1
theorem part_time {n : Nat} {l : List Bd} (h : Fit Try.prog n 24 [.sl (l.map encBd)]) : ∀ b ∈ l, inI64 b.ev.time := by
  obtain ⟨_, m, _, hf⟩ := h.st Try.underlying24
  have h0 : Fit Try.prog m 22 (([V.sl (l.map encBd)].drop 0).take (Try.prog.cellsOf 22)) := hf 0 _ rfl
  simp only [co22, List.drop_zero, List.take_succ_cons, List.take_zero, List.drop_succ_cons] at h0
  obtain ⟨es, e4, hes, k, _, hk⟩ := h0.sl Try.underlying22
  simp only [List.cons.injEq, V.sl.injEq, and_true] at e4
  subst e4
  exact fun b hb => bd_time (hk _ (List.mem_map.2 ⟨b, hb, rfl⟩)).2
structure okT (l : List Bd) : Prop where
  i : okI l
  time : ∀ b ∈ l, inI64 b.ev.time
theorem flat_of {t : TypeId} {W : World} {base : Nat} {v : Value} (hu : (∃ k, Try.prog.underlying t = some (.int k)) ∨ Try.prog.underlying t = some .string ∨ ∃ e, Try.prog.underlying t = some (.slice e)) (hval : Value.okWide Try.prog W .any base t v) : ∀ cs, v ≠ .agg cs := by
  rintro cs rfl
  rcases hu with ⟨k, hu⟩ | hu | ⟨e, hu⟩ <;> simp [Value.okWide, Cell.okWide, Cell.ok, hu] at hval
section
variable {H : Type} {enc : TypeId × Value → H} {W : World} {base : Nat} {v : Value} {d : DataW H} {ps : List MemPlace}
theorem arg_partT (hval : Value.okWide Try.prog W .any base 24 v)
    (h : DataW.Trod enc Try.prog W 0 (fun _ => true) true 24 v d ps) (hw : ∀ n ∈ d.weights Try.prog 24, n ≤ reachBytes) : ∃ l : List Bd, VR W (cx0 W) (.agg [.sl (l.map encBd)]) v ∧ okT l := by
  have hm : (24 : TypeId) ∈ plainTs := by unfold plainTs; exact List.mem_cons_self
  obtain ⟨n, us, h1, h2⟩ := open_arg (P := Try.prog) (t := 24) plainTs plain_ok hm h hw
  have hsh : ∃ cs, v = .agg cs ∧ cs.size = 1 := by
    obtain ⟨cs, h3, h4⟩ := okWide_agg Try.underlying24 hval
    exact ⟨cs, h3, by rw [h4]; exact co24⟩
  obtain ⟨cs, rfl, hcs⟩ := hsh
  have hl : us.length = 1 := by rw [h1.1]; simpa [Value.cells] using hcs
  obtain ⟨l, rfl, hok⟩ := open_part hl h2
  exact ⟨l, VR.of_row h1, hok, part_time h2⟩
theorem arg_str (hval : Value.okWide Try.prog W .any base 9 v)
    (h : DataW.Trod enc Try.prog W 0 (fun _ => true) true 9 v d ps) (hw : ∀ n ∈ d.weights Try.prog 9, n ≤ reachBytes) : ∃ s : ByteArray, VR W (cx0 W) (.c (.string s)) v ∧ s.size ≤ reachBytes := by
  have hm : (9 : TypeId) ∈ plainTs := by decide
  obtain ⟨n, us, h1, h2⟩ := open_arg (P := Try.prog) (t := 9) plainTs plain_ok hm h hw
  obtain ⟨s, rfl, hs⟩ := h2.str Try.underlying9
  exact ⟨s, VR.of_cell h1 (flat_of (.inr (.inl Try.underlying9)) hval), hs⟩
theorem arg_i64 (hval : Value.okWide Try.prog W .any base 2 v)
    (h : DataW.Trod enc Try.prog W 0 (fun _ => true) true 2 v d ps) (hw : ∀ n ∈ d.weights Try.prog 2, n ≤ reachBytes) : ∃ x : Int, VR W (cx0 W) (.c (.int .i64 x)) v ∧ inI64 x := by
  have hm : (2 : TypeId) ∈ plainTs := by decide
  obtain ⟨n, us, h1, h2⟩ := open_arg (P := Try.prog) (t := 2) plainTs plain_ok hm h hw
  obtain ⟨s, rfl, hs⟩ := h2.int Try.underlying2
  exact ⟨s, VR.of_cell h1 (flat_of (.inl ⟨_, Try.underlying2⟩) hval), inI64_of hs⟩
theorem arg_int (hval : Value.okWide Try.prog W .any base 3 v)
    (h : DataW.Trod enc Try.prog W 0 (fun _ => true) true 3 v d ps) (hw : ∀ n ∈ d.weights Try.prog 3, n ≤ reachBytes) : ∃ x : Int, VR W (cx0 W) (.c (.int .i64 x)) v ∧ inI64 x := by
  have hm : (3 : TypeId) ∈ plainTs := by decide
  obtain ⟨n, us, h1, h2⟩ := open_arg (P := Try.prog) (t := 3) plainTs plain_ok hm h hw
  obtain ⟨s, rfl, hs⟩ := h2.int Try.underlying3
  exact ⟨s, VR.of_cell h1 (flat_of (.inl ⟨_, Try.underlying3⟩) hval), inI64_of hs⟩
theorem arg_u8 (hval : Value.okWide Try.prog W .any base 5 v)
    (h : DataW.Trod enc Try.prog W 0 (fun _ => true) true 5 v d ps) (hw : ∀ n ∈ d.weights Try.prog 5, n ≤ reachBytes) : ∃ x : Nat, VR W (cx0 W) (.c (.int .u8 x)) v ∧ x < 256 := by
  have hm : (5 : TypeId) ∈ plainTs := by decide
  obtain ⟨n, us, h1, h2⟩ := open_arg (P := Try.prog) (t := 5) plainTs plain_ok hm h hw
  obtain ⟨s, rfl, hs⟩ := h2.int Try.underlying5
  simp [Lit.wf, IntKind.min, IntKind.max, IntKind.signed, IntKind.bits] at hs
  exact ⟨s.toNat, by rw [Int.toNat_of_nonneg hs.1]; exact VR.of_cell h1 (flat_of (.inl ⟨_, Try.underlying5⟩) hval), by omega⟩
def encB (x : Nat) : List V := [.c (.int .u8 x)]
theorem arg_bytes (hval : Value.okWide Try.prog W .any base 48 v)
    (h : DataW.Trod enc Try.prog W 0 (fun _ => true) true 48 v d ps) (hw : ∀ n ∈ d.weights Try.prog 48, n ≤ reachBytes) : ∃ l : List Nat, VR W (cx0 W) (.sl (l.map encB)) v ∧ (∀ x ∈ l, x < 256) ∧ l.length ≤ reachBytes := by
  have hm : (48 : TypeId) ∈ plainTs := by decide
  obtain ⟨n, us, h1, h2⟩ := open_arg (P := Try.prog) (t := 48) plainTs plain_ok hm h hw
  obtain ⟨es, rfl, hes, m, _, hk⟩ := h2.sl Try.underlying48
  obtain ⟨l, rfl, hl⟩ := rows_of (f := encB) (p := fun x => x < 256) (es := es) fun x hx => by
    obtain ⟨y, hy, hw⟩ := (hk x hx).2.int Try.underlying5
    simp [Lit.wf, IntKind.min, IntKind.max, IntKind.signed, IntKind.bits] at hw
    exact ⟨y.toNat, by rw [hy, encB, Int.toNat_of_nonneg hw.1], by omega⟩
  exact ⟨l, VR.of_cell h1 (flat_of (.inr (.inr ⟨_, Try.underlying48⟩)) hval), hl, by simpa [by5] using hes⟩
def encP (l : List Bd) : List V := [.sl (l.map encBd)]
theorem arg_parts (hval : Value.okWide Try.prog W .any base 64 v)
    (h : DataW.Trod enc Try.prog W 0 (fun _ => true) true 64 v d ps) (hw : ∀ n ∈ d.weights Try.prog 64, n ≤ reachBytes) : ∃ l : List (List Bd), VR W (cx0 W) (.sl (l.map encP)) v ∧ (∀ x ∈ l, okT x) ∧ l.length * 24 ≤ reachBytes := by
  have hm : (64 : TypeId) ∈ plainTs := by decide
  obtain ⟨n, us, h1, h2⟩ := open_arg (P := Try.prog) (t := 64) plainTs plain_ok hm h hw
  obtain ⟨es, rfl, hes, m, _, hk⟩ := h2.sl Try.underlying64
  obtain ⟨l, rfl, hl⟩ := rows_of (f := encP) (p := okT) (es := es) fun x hx => by
    obtain ⟨l, rfl, hok⟩ := open_part ((hk x hx).1.trans co24) (hk x hx).2
    exact ⟨l, rfl, hok, part_time (hk _ hx).2⟩
  exact ⟨l, VR.of_cell h1 (flat_of (.inr (.inr ⟨_, Try.underlying64⟩)) hval), hl, by simpa [by24'] using hes⟩
end
end Go.Abs.M
