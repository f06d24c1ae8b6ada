import Derived.Test.YtkijhgplmikboaaGreatNne
import Derived.Deep.Slices
import Derived.Test.YtkijhgplmikboaaGreatRows
set_option linter.all false
set_option maxHeartbeats 4000000
namespace Go.Abs.M
set_option maxHeartbeats 4000000
open Go Go.Abs Go.Proofs
open Go.Proofs.YtkijhgplmikboaaGreat.Rows (uptoBulk uptoBulkAll)
set_option maxRecDepth 20000
theorem bulk_le {H : Type} : ∀ {d : DataW H} {l : List (DataW H)}, d ∈ l → uptoBulk d ≤ uptoBulkAll l
  | d, x :: l, h => by
    simp only [uptoBulkAll]
    rcases List.mem_cons.1 h with rfl | h
    · omega
    · have := bulk_le h; omega
theorem bulk_one {H : Type} (d : DataW H) : 1 ≤ uptoBulk d := by
 cases d with
 | lit l => cases l <;> simp [uptoBulk]
 | nil => simp [uptoBulk]
 | ptr d => simp [uptoBulk]
 | slice elems spare => simp [uptoBulk]
 | agg parts => simp [uptoBulk]
 | iface t d => simp [uptoBulk]
 | map entries => simp [uptoBulk]
 | held h => simp [uptoBulk]
theorem bulk_sum {H : Type} {n : Nat} (D : Nat → DataW H) : ∀ (l : List Nat) (o : Nat), (∀ i x, l[i]? = some x → x ≤ uptoBulk (D (o + i))) → l.sum ≤ uptoBulkAll ((List.range l.length).map fun i => D (o + i))
  | [], o, _ => by simp [uptoBulkAll]
  | x :: l, o, h => by
    have h0 := h 0 x rfl
    have h1 := bulk_sum (n := n) D l (o + 1) fun i y hy => by
      have := h (i + 1) y (by simpa using hy)
      rwa [show o + (i + 1) = o + 1 + i by omega] at this
    rw [List.length_cons, List.range_succ_eq_map, List.map_cons, List.sum_cons]
    simp only [uptoBulkAll, Nat.add_zero, List.map_map] at h0 ⊢
    have e : (List.range l.length).map ((fun i => D (o + i)) ∘ Nat.succ) = (List.range l.length).map fun i => D (o + 1 + i) := List.map_congr_left fun i _ => by
      show D (o + (i + 1)) = _
      rw [show o + (i + 1) = o + 1 + i by omega]
    rw [e]; omega
theorem nd_bulk {H : Type} {enc : TypeId × Value → H} {W : World} : ∀ (nd : Nd) (fuel : Nat) (cs : List Value) (d : DataW H) (ps : List MemPlace),
    DataW.trod enc Tryz.prog W 0 (fun _ => true) true fuel 25 cs = some (d, ps) → VRs W (cx0 W) (encNd nd) cs → nd.size ≤ uptoBulk d := Nd.ind fun nd ih fuel cs d ps h hv => by
  obtain ⟨xs, n, _, hx, hcl, hxl, hfs⟩ := DataW.trod_struct Tryz.underlying25 h
  simp only [Prod.mk.injEq] at hx
  obtain ⟨rfl, -⟩ := hx
  have h4 := hfs 4 _ rfl
  rw [List.getElem?_eq_getElem (by rw [hxl]; decide)] at h4
  generalize hy : xs[4]'(by rw [hxl]; decide) = y at h4
  have hym : y.1 ∈ xs.map (·.1) := List.mem_map.2 ⟨y, by rw [← hy]; exact List.getElem_mem _, rfl⟩
  obtain ⟨yd, yp⟩ := y
  have hb := bulk_le hym
  have hd : uptoBulk (DataW.agg (xs.map (·.1))) = uptoBulkAll (xs.map (·.1)) + 1 := by simp [uptoBulk]
  rw [co25] at hcl
  have hcv : ∃ c, (cs.drop 4).take 1 = [c] ∧ cs[4]? = some c := by
    match cs, hcl with
    | [a, b, c, d, e], _ => exact ⟨e, rfl, rfl⟩
  obtain ⟨c, hc1, hc2⟩ := hcv
  have h4 : DataW.trod enc Tryz.prog W 0 (fun _ => true) true n 23 ((cs.drop 4).take 1) = some (yd, yp) := h4
  rw [hc1] at h4
  have hk : VR W (cx0 W) (.sl (nd.kids.map encNd)) c := hv.2.2 4 _ c (by rw [encNd_eq]; rfl) hc2
  rw [Nd.size_eq, hd]
  suffices hs : (nd.kids.map Nd.size).sum + 1 ≤ uptoBulk yd by
    have : uptoBulk yd ≤ uptoBulkAll (xs.map (·.1)) := hb
    omega
  rcases Go.Deep.open_slice Tryz.underlying23 h4 with ⟨h1, h2⟩ | ⟨a, len, cap, m, n', D, Pl, h1, _, hlc, _, hm, h2, hel⟩
  · injection h1 with h1
    subst h1
    generalize hes : nd.kids.map encNd = es at hk
    cases hk with
    | nils =>
      have : nd.kids = [] := List.map_eq_nil_iff.1 hes
      rw [this]
      exact bulk_one yd
  · injection h1 with h1
    subst h1
    have hm : m = cap := by simpa using hm
    have hyd : yd = .slice ((List.range len).map D) ((List.range (m - len)).map fun j => D (len + j)) := congrArg Prod.fst h2
    rw [hyd]
    simp only [uptoBulk]
    suffices hs : (nd.kids.map Nd.size).sum ≤ uptoBulkAll ((List.range len).map D) by omega
    generalize hes : nd.kids.map encNd = es at hk
    have hkl : nd.kids.length = es.length := by rw [← hes, List.length_map]
    cases hk with
    | nile =>
      have : nd.kids = [] := List.map_eq_nil_iff.1 hes
      rw [this]; simp
    | sl f hI hcap hlen hc hr h1 =>
      have hsum := bulk_sum (n := 0) D (nd.kids.map Nd.size) 0 fun i x hx => ?_
      · rw [List.length_map, hkl] at hsum
        simpa using hsum
      · rw [List.getElem?_map, Option.map_eq_some_iff] at hx
        obtain ⟨k, hki, rfl⟩ := hx
        have hkm := List.mem_of_getElem? hki
        have hil : i < es.length := by rw [← hkl]; exact (List.getElem?_eq_some_iff.1 hki).1
        have hei : es[i]? = some (encNd k) := by rw [← hes, List.getElem?_map, hki]; rfl
        obtain ⟨cs', hc1', hc2'⟩ := hel i (by omega)
        rw [co25] at hc1'
        obtain ⟨_, hcl', hce'⟩ := World.cells?_some hc1'
        rw [Nat.zero_add]
        have hsz := hlen i _ hei
        rw [encNd_len] at hsz
        subst hsz
        have hcell : ∀ j, j < 5 → cs'[j]? = some (f i j) := fun j hj => by
          have h5 := hce' j hj
          rw [Addr.add_lit, Addr.add_lit] at h5
          rw [← h5]; exact hc i j hil hj
        refine ih k hkm n' cs' _ _ hc2' ⟨by rw [encNd_len, hcl'], fun x hx => ?_, fun j v x hv hx => ?_⟩
        · obtain ⟨j, hj⟩ := List.getElem?_of_mem hx
          have hj5 : j < 5 := by rw [← hcl']; exact (List.getElem?_eq_some_iff.1 hj).1
          rw [hcell j hj5] at hj
          injection hj with hj
          rw [← hj]; exact h1 i j hil hj5
        · have hj5 : j < 5 := by rw [← hcl']; exact (List.getElem?_eq_some_iff.1 hx).1
          rw [hcell j hj5] at hx
          injection hx with hx
          rw [← hx]; exact hr i _ j v hei hv
theorem node_bulk {H : Type} {enc : TypeId × Value → H} {W : World} {v : Value} {d : DataW H} {ps : List MemPlace} {nd : Nd} (h : DataW.Trod enc Tryz.prog W 0 (fun _ => true) true 25 v d ps) (hv : VRs W (cx0 W) (encNd nd) v.cells.toList) : nd.size ≤ uptoBulk d := by
 obtain ⟨fuel, hf⟩ := h
 exact nd_bulk nd fuel _ d ps hf hv
end Go.Abs.M
