import Derived.Test.YtmhamgllanihoaaMh
import Derived.Test.YtmhamgllanihoaaLb
namespace Go.Abs.M
open Go Go.Abs Go.Proofs
set_option linter.unusedSimpArgs false

theorem co2 : Try.prog.cellsOf 2 = 1 := by kernel_rfl
theorem co3 : Try.prog.cellsOf 3 = 1 := by kernel_rfl
theorem co9 : Try.prog.cellsOf 9 = 1 := by kernel_rfl
theorem co22 : Try.prog.cellsOf 22 = 1 := by kernel_rfl
theorem co24 : Try.prog.cellsOf 24 = 1 := by kernel_rfl
theorem co33 : Try.prog.cellsOf 33 = 2 := by kernel_rfl
theorem co34 : Try.prog.cellsOf 34 = 1 := by kernel_rfl
theorem co36 : Try.prog.cellsOf 36 = 5 := by kernel_rfl
theorem co42 : Try.prog.cellsOf 42 = 6 := by kernel_rfl
theorem co141 : Try.prog.cellsOf 141 = 3 := by kernel_rfl
theorem co143 : Try.prog.cellsOf 143 = 4 := by kernel_rfl

theorem len1 {us : List V} (h : us.length = 1) : ∃ x0, us = [x0] := by
  match us, h with
  | [x0], _ => exact ⟨x0, rfl⟩
theorem len4 {us : List V} (h : us.length = 4) : ∃ x0 x1 x2 x3, us = [x0, x1, x2, x3] := by
  match us, h with
  | [x0, x1, x2, x3], _ => exact ⟨x0, x1, x2, x3, rfl⟩
theorem len5 {us : List V} (h : us.length = 5) : ∃ x0 x1 x2 x3 x4, us = [x0, x1, x2, x3, x4] := by
  match us, h with
  | [x0, x1, x2, x3, x4], _ => exact ⟨x0, x1, x2, x3, x4, rfl⟩
theorem len6 {us : List V} (h : us.length = 6) : ∃ x0 x1 x2 x3 x4 x5, us = [x0, x1, x2, x3, x4, x5] := by
  match us, h with
  | [x0, x1, x2, x3, x4, x5], _ => exact ⟨x0, x1, x2, x3, x4, x5, rfl⟩
theorem open_val {n : Nat} {x0 x1 x2 : V} (h : Fit Try.prog n 141 [x0, x1, x2]) : ∃ v : Val, [x0, x1, x2] = encVal v ∧ v.s.size ≤ reachBytes := by
  obtain ⟨_, m, _, hf⟩ := h.st Try.underlying141
  have h0 : Fit Try.prog m 3 (([x0, x1, x2].drop 0).take (Try.prog.cellsOf 3)) := hf 0 _ rfl
  have h1 : Fit Try.prog m 2 (([x0, x1, x2].drop 1).take (Try.prog.cellsOf 2)) := hf 1 _ rfl
  have h2 : Fit Try.prog m 9 (([x0, x1, x2].drop 2).take (Try.prog.cellsOf 9)) := hf 2 _ rfl
  simp only [co3, co2, co9, List.drop_zero, List.take_succ_cons, List.take_zero, List.drop_succ_cons] at h0 h1 h2
  obtain ⟨a, e0, _⟩ := h0.int Try.underlying3
  obtain ⟨b, e1, _⟩ := h1.int Try.underlying2
  obtain ⟨s, e2, hs⟩ := h2.str Try.underlying9
  simp only [List.cons.injEq, and_true] at e0 e1 e2
  exact ⟨⟨a, b, s⟩, by rw [e0, e1, e2]; rfl, hs⟩
def attrFits (a : Attr) : Prop := a.name.size ≤ reachBytes ∧ a.v.s.size ≤ reachBytes
theorem open_attr {n : Nat} {us : List V} (hl : us.length = 4) (h : Fit Try.prog n 143 us) : ∃ a : Attr, us = encAttr a ∧ attrFits a := by
  obtain ⟨_, m, _, hf⟩ := h.st Try.underlying143
  have h0 : Fit Try.prog m 9 ((us.drop 0).take (Try.prog.cellsOf 9)) := hf 0 _ rfl
  have h1 : Fit Try.prog m 141 ((us.drop 1).take (Try.prog.cellsOf 141)) := hf 1 _ rfl
  obtain ⟨x0, x1, x2, x3, rfl⟩ := len4 hl
  simp only [co9, co141, List.drop_zero, List.take_succ_cons, List.take_zero, List.drop_succ_cons] at h0 h1
  obtain ⟨s, e0, hs⟩ := h0.str Try.underlying9
  obtain ⟨v, e1, hv⟩ := open_val h1
  simp only [List.cons.injEq, and_true] at e0
  refine ⟨⟨s, v⟩, ?_, hs, hv⟩
  rw [e0, e1]; rfl
structure evFits (e : Ev) : Prop where
  type : e.type.size ≤ reachBytes
  len : e.attrs.length * 48 ≤ reachBytes
  attrs : ∀ a ∈ e.attrs, attrFits a
theorem open_ev {n : Nat} {us : List V} (hl : us.length = 5) (h : Fit Try.prog n 36 us) : ∃ e : Ev, us = encEv e ∧ evFits e := by
  obtain ⟨_, m, _, hf⟩ := h.st Try.underlying36
  have h0 : Fit Try.prog m 33 ((us.drop 0).take (Try.prog.cellsOf 33)) := hf 0 _ rfl
  have h1 : Fit Try.prog m 2 ((us.drop 2).take (Try.prog.cellsOf 2)) := hf 1 _ rfl
  have h2 : Fit Try.prog m 9 ((us.drop 3).take (Try.prog.cellsOf 9)) := hf 2 _ rfl
  have h3 : Fit Try.prog m 34 ((us.drop 4).take (Try.prog.cellsOf 34)) := hf 3 _ rfl
  obtain ⟨x0, x1, x2, x3, x4, rfl⟩ := len5 hl
  simp only [co33, co2, co9, co34, List.drop_zero, List.take_succ_cons, List.take_zero, List.drop_succ_cons] at h0 h1 h2 h3
  obtain ⟨_, m', _, hg⟩ := h0.st Try.underlying33
  have g0 : Fit Try.prog m' 3 (([x0, x1].drop 0).take (Try.prog.cellsOf 3)) := hg 0 _ rfl
  have g1 : Fit Try.prog m' 2 (([x0, x1].drop 1).take (Try.prog.cellsOf 2)) := hg 1 _ rfl
  simp only [co3, co2, List.drop_zero, List.take_succ_cons, List.take_zero, List.drop_succ_cons] at g0 g1
  obtain ⟨a, e0, _⟩ := g0.int Try.underlying3
  obtain ⟨b, e1, _⟩ := g1.int Try.underlying2
  obtain ⟨c, e2, _⟩ := h1.int Try.underlying2
  obtain ⟨s, e3, hs⟩ := h2.str Try.underlying9
  obtain ⟨es, e4, hes, k, _, hk⟩ := h3.sl Try.underlying34
  simp only [co143] at hk
  obtain ⟨l, rfl, hl⟩ := rows_of (f := encAttr) (p := attrFits) fun x hx => open_attr (hk x hx).1 (hk x hx).2
  simp only [List.cons.injEq, and_true] at e0 e1 e2 e3 e4
  refine ⟨⟨a, b, c, s, l⟩, by rw [e0, e1, e2, e3, e4]; rfl, hs, ?_, hl⟩
  rw [List.length_map, by143] at hes; exact hes
structure bdFits (b : Bd) : Prop where
  var : b.var.size ≤ reachBytes
  ev : evFits b.ev
theorem open_bd {n : Nat} {us : List V} (hl : us.length = 6) (h : Fit Try.prog n 42 us) : ∃ b : Bd, us = encBd b ∧ bdFits b := by
  obtain ⟨_, m, _, hf⟩ := h.st Try.underlying42
  have h0 : Fit Try.prog m 9 ((us.drop 0).take (Try.prog.cellsOf 9)) := hf 0 _ rfl
  have h1 : Fit Try.prog m 36 ((us.drop 1).take (Try.prog.cellsOf 36)) := hf 1 _ rfl
  obtain ⟨x0, x1, x2, x3, x4, x5, rfl⟩ := len6 hl
  simp only [co9, co36, List.drop_zero, List.take_succ_cons, List.take_zero, List.drop_succ_cons] at h0 h1
  obtain ⟨s, e0, hs⟩ := h0.str Try.underlying9
  obtain ⟨v, e1, hv⟩ := open_ev rfl h1
  simp only [List.cons.injEq, and_true] at e0
  refine ⟨⟨s, v⟩, ?_, hs, hv⟩
  rw [e0, e1]; rfl
theorem okI_of {l : List Bd} (h1 : ∀ b ∈ l, bdFits b) (h2 : l.length * 80 ≤ reachBytes) : okI l := by
  have hr : reachBytes = 140737488351232 := rfl
  refine ⟨fun b hb => ?_, fun b hb => ?_, by omega⟩
  · obtain ⟨k1, k2, k3, k4⟩ := h1 b hb
    exact ⟨by omega, ⟨by omega, by omega, fun a ha => by obtain ⟨h5, h6⟩ := k4 a ha; exact ⟨by omega, by omega⟩⟩⟩
  · obtain ⟨k1, k2, k3, k4⟩ := h1 b hb
    omega
theorem open_part {n : Nat} {us : List V} (hl : us.length = 1) (h : Fit Try.prog n 24 us) : ∃ l : List Bd, us = [.sl (l.map encBd)] ∧ okI l := by
  obtain ⟨_, m, _, hf⟩ := h.st Try.underlying24
  have h0 : Fit Try.prog m 22 ((us.drop 0).take (Try.prog.cellsOf 22)) := hf 0 _ rfl
  obtain ⟨x0, rfl⟩ := len1 hl
  simp only [co22, List.drop_zero, List.take_succ_cons, List.take_zero, List.drop_succ_cons] at h0
  obtain ⟨es, e4, hes, k, _, hk⟩ := h0.sl Try.underlying22
  simp only [co42] at hk
  obtain ⟨l, rfl, hl⟩ := rows_of (f := encBd) (p := bdFits) fun x hx => open_bd (hk x hx).1 (hk x hx).2
  refine ⟨l, e4, okI_of hl ?_⟩
  rw [List.length_map, by42] at hes; exact hes

/-- The types of plain data that the laws' arguments are made of. -/
def plainTs : List TypeId := [24, 22, 42, 9, 36, 33, 3, 2, 34, 143, 141, 64, 48, 5]
theorem plain_ok : plainB Try.prog plainTs = true := by kernel_rfl

theorem okWide_agg {P : Program} {W : World} {r : Reach} {base : Nat} {t : TypeId} {fs : Array Field} {v : Value} (hu : P.underlying t = some (.struct fs)) (h : Value.okWide P W r base t v) : ∃ cs, v = .agg cs ∧ cs.size = P.cellsOf t := by
  simp only [Value.okWide, hu] at h
  obtain ⟨cs, h1, h2, _⟩ := h
  exact ⟨cs, h1, h2⟩

set_option maxRecDepth 20000 in
/-- A part that is handed in. -/
theorem arg_part {H : Type} {enc : TypeId × Value → H} {W : World} {base : Nat} {v : Value} {d : DataW H} {ps : List MemPlace} (hval : Value.okWide Try.prog W .any base 24 v)
    (h : DataW.Trod enc Try.prog W 0 (fun _ => true) true 24 v d ps) (hw : ∀ n ∈ d.weights Try.prog 24, n ≤ reachBytes) : ∃ l : List Bd, VR W (cx0 W) (.agg [.sl (l.map encBd)]) v ∧ okI l := by
  have hm : (24 : TypeId) ∈ plainTs := by unfold plainTs; exact List.mem_cons_self
  obtain ⟨n, us, h1, h2⟩ := open_arg (P := Try.prog) (t := 24) plainTs plain_ok hm h hw
  have hsh : ∃ cs, v = .agg cs ∧ cs.size = 1 := by
    obtain ⟨cs, h3, h4⟩ := okWide_agg Try.underlying24 hval
    exact ⟨cs, h3, by rw [h4]; exact co24⟩
  obtain ⟨cs, rfl, hcs⟩ := hsh
  have hl : us.length = 1 := by rw [h1.1]; simpa [Value.cells] using hcs
  obtain ⟨l, rfl, hok⟩ := open_part hl h2
  exact ⟨l, VR.of_row h1, hok⟩
end Go.Abs.M
