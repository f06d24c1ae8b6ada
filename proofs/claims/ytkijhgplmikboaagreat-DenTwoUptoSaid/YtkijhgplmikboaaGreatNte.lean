import Derived.Test.YtkijhgplmikboaaGreatNtd
import Derived.Deep.Slices
import Derived.Test.YtkijhgplmikboaaGreatRows
set_option linter.all false
namespace Go.Abs.M
set_option maxHeartbeats 4000000
open Go Go.Abs Go.Proofs
structure Ends (vs : List ByteArray) (p : List Bd) : Prop where
  ne : ofB p vs ≠ []
  last : ∀ b ∈ p, b.ev.time ≤ endOf (ofB p vs)
theorem Ends.same {vs : List ByteArray} {p : List Bd} (h : Ends vs p) : endOf p = endOf (ofB p vs) := end_eq h.ne (fun b hb => (List.mem_filter.1 hb).1) h.last
theorem ends_all {evs : List Ev} {vs : List ByteArray} {p : List Bd} (h : PartOf evs vs p) : Ends vs p := by
 have e : ofB p vs = p := ofB_all h.vars
 exact ⟨by rw [e]; exact h.ne, fun b hb => by rw [e]; exact le_end hb⟩
theorem begin_le_endQ {q : List Bd} (h : q ≠ []) : beginOf q ≤ endOf q := by
 cases q with
 | nil => exact absurd rfl h
 | cons b r => exact Int.le_trans (begin_le List.mem_cons_self) (le_end List.mem_cons_self)
theorem ends_mg {evs : List Ev} {vs ws : List ByteArray} {p q m : List Bd} (hp : PartOf evs vs p) (hq : PartOf evs ws q) (hd : ∀ v ∈ ws, v ∉ vs) (hm : mg p q = some m) (hl : endOf p < beginOf q) : Ends ws m := by
 have e : ofB m ws = q := ofB_right hm (fun b hb h => hd _ h (hp.vars b hb)) hq.vars
 obtain ⟨_, _, _, _, h5⟩ := ofB_mrg hm []
 have hbe := begin_le_endQ hq.ne
 refine ⟨by rw [e]; exact hq.ne, fun b hb => ?_⟩
 rw [e]
 rcases List.mem_append.1 (h5.subset hb) with h | h
 ·have := le_end h; omega
 ·exact le_end h
theorem rowP_same {two : Bool} {vs : List ByteArray} {b : List (List Bd)} {p : List Bd} (h : two = true → Ends vs p) : rowP two vs b p = rowL two b p := by
 unfold rowP rowL late
 cases two with
 | false => rfl
 | true => rw [(h rfl).same]
theorem pairsP_same {two : Bool} {vs : List ByteArray} {a b : List (List Bd)} (h : ∀ p ∈ a, two = true → Ends vs p) : pairsP two vs a b = pairsL two a b := by
  induction a with
  | nil => rfl
  | cons p a ih =>
    have h1 := rowP_same (b := b) (h p List.mem_cons_self)
    have h2 := ih fun q hq => h q (List.mem_cons_of_mem _ hq)
    unfold pairsP pairsL at *
    rw [List.flatMap_cons, List.flatMap_cons, h1, h2]
structure KidOk (evs : List Ev) (n : Nd) : Prop where
  same : n.denP evs = n.den evs
  part : ∀ l, n.den evs = some l → l.length ≤ 4096 ∧ ∀ p ∈ l, PartOf evs n.vars p
theorem pairs_part {evs : List Ev} {two : Bool} {vs ws us : List ByteArray} {a b : List (List Bd)} (ha : ∀ p ∈ a, PartOf evs vs p) (hb : ∀ q ∈ b, PartOf evs ws q) (hv : ∀ v ∈ vs, v ∈ us) (hw : ∀ v ∈ ws, v ∈ us) (hd : ∀ v ∈ ws, v ∉ vs) : ∀ m ∈ pairsL two a b, PartOf evs us m ∧ (two = true → Ends ws m) := by
 intro m hm
 obtain ⟨p, hp, h⟩ := List.mem_flatMap.1 hm
 obtain ⟨q, hq, h⟩ := List.mem_filterMap.1 h
 split at h
 ·cases h
 ·rename_i hl
  refine ⟨mg_part (ha p hp) (hb q hq) hv hw h, fun ht => ends_mg (ha p hp) (hb q hq) hd h ?_⟩
  subst ht
  simp only [late, Bool.true_and, decide_eq_true_eq] at hl
  omega
theorem join_same {evs : List Ev} (hd : Dist evs) {kind : Int} (hk : kind ≠ 4) : ∀ (ks : List Nd) (a : List (List Bd)) (us vs : List ByteArray), (∀ x ∈ ks, KidOk evs x) → (∀ x ∈ ks, ∀ v ∈ x.vars, v ∉ us) → Apart ks → a.length ≤ 4096 → (∀ p ∈ a, PartOf evs us p ∧ (decide (kind = 2) = true → Ends vs p)) →
    joinP (decide (kind = 2)) (some (a, vs)) (ks.map (denOf evs)) = denGo kind (some a) (ks.map (Nd.den evs)) ∧ ∀ l, denGo kind (some a) (ks.map (Nd.den evs)) = some l → l.length ≤ 4096 ∧ ∀ p ∈ l, PartOf evs (us ++ (ks.map Nd.vars).flatten) p
  | [], a, us, vs, _, _, _, hal, ha => ⟨rfl, fun l h => by cases h; exact ⟨hal, fun p hp => (ha p hp).1.sub fun v hv => List.mem_append_left _ hv⟩⟩
  | x :: ks, a, us, vs, hks, hno, hap, hal, ha => by
    have hx := hks x List.mem_cons_self
    rw [List.map_cons, List.map_cons, denOf, hx.same]
    cases hxd : x.den evs with
    | none => exact ⟨rfl, fun l h => by cases h⟩
    | some l =>
      obtain ⟨hll, hlp⟩ := hx.part l hxd
      have hxno := hno x List.mem_cons_self
      have e1 : joinP (decide (kind = 2)) (some (a, vs)) ((some l, x.vars) :: ks.map (denOf evs)) = (capL (norm (pairsP (decide (kind = 2)) vs a l))).bind fun m => joinP (decide (kind = 2)) (some (m, x.vars)) (ks.map (denOf evs)) := rfl
      have e2 : denGo kind (some a) (some l :: ks.map (Nd.den evs)) = (capL (norm (stepL kind a l))).bind fun m => denGo kind (some m) (ks.map (Nd.den evs)) := rfl
      rw [e1, e2, stepL, if_neg hk, pairsP_same fun p hp => (ha p hp).2]
      have hP := pairs_part (two := decide (kind = 2)) (us := us ++ x.vars) (fun p hp => (ha p hp).1) hlp (fun v hv => List.mem_append_left _ hv) (fun v hv => List.mem_append_right _ hv) hxno
      cases hc : capL (norm (pairsL (decide (kind = 2)) a l)) with
      | none => exact ⟨rfl, fun l h => by cases h⟩
      | some m =>
        obtain ⟨rfl, hml⟩ := capL_some hc
        rw [Option.bind_some, Option.bind_some]
        obtain ⟨hap1, hap2⟩ := List.pairwise_cons.1 hap
        have hnm := fun p hp => hP p ((norm_mem (from_apt hd) (fun y hy => (hP y hy).1.of) p).1 hp)
        obtain ⟨i1, i2⟩ := join_same hd hk ks (norm (pairsL (decide (kind = 2)) a l)) (us ++ x.vars) x.vars (fun y hy => hks y (List.mem_cons_of_mem _ hy)) (fun y hy v hv h => (List.mem_append.1 h).elim (hno y (List.mem_cons_of_mem _ hy) v hv) (hap1 y hy v hv)) hap2 hml hnm
        refine ⟨i1, fun l' h => ?_⟩
        obtain ⟨j1, j2⟩ := i2 l' h
        refine ⟨j1, fun p hp => (j2 p hp).sub fun v hv => ?_⟩
        simpa [List.append_assoc] using hv
theorem go_part {evs : List Ev} (hd : Dist evs) {us : List ByteArray} : ∀ (r : List (Option (List (List Bd)))) (a : List (List Bd)), a.length ≤ 4096 → (∀ p ∈ a, PartOf evs us p) → (∀ k ∈ r, ∀ l, k = some l → ∀ p ∈ l, PartOf evs us p) → ∀ l, denGo 4 (some a) r = some l → l.length ≤ 4096 ∧ ∀ p ∈ l, PartOf evs us p
  | [], a, hl, ha, _, l, h => by cases h; exact ⟨hl, ha⟩
  | none :: r, a, _, _, _, l, h => by cases h
  | some k :: r, a, hl, ha, hr, l, h => by
    have e : denGo 4 (some a) (some k :: r) = (capL (norm (a ++ k))).bind fun m => denGo 4 (some m) r := rfl
    rw [e] at h
    cases hc : capL (norm (a ++ k)) with
    | none => rw [hc] at h; cases h
    | some m =>
      rw [hc] at h
      obtain ⟨rfl, hml⟩ := capL_some hc
      exact go_part hd r _ hml (norm_part hd fun p hp => (List.mem_append.1 hp).elim (ha p) (hr (some k) List.mem_cons_self k rfl p)) (fun k hk => hr k (List.mem_cons_of_mem _ hk)) l h
theorem Nd.vars_kid {n x : Nd} (hx : x ∈ n.kids) : ∀ v ∈ x.vars, v ∈ n.vars := fun v hv => (n.vars_mem v).2 (.inr ⟨x, hx, hv⟩)
theorem Nd.kid_ok {evs : List Ev} (hd : Dist evs) (hl : evs.length ≤ 64) (hv : ∀ e ∈ evs, evErr e = 0) : ∀ n : Nd, n.fine → KidOk evs n := Nd.ind fun n ih hf => by
  have hks : ∀ x ∈ n.kids, KidOk evs x := fun x hx => ih x hx (hf.kid hx)
  have hmap : n.kids.map (Nd.denP evs) = n.kids.map (Nd.den evs) := List.map_congr_left fun x hx => (hks x hx).same
  by_cases hk : n.kind = 1
  · have hn := leaf_name hf.err hk
    have e1 : n.denP evs = some (norm (leafL n evs)) := by rw [Nd.denP_eq, if_pos hk]
    have e2 : n.den evs = some (norm (leafL n evs)) := by rw [Nd.den_eq, if_pos hk]
    refine ⟨by rw [e1, e2], fun l h => ?_⟩
    rw [e2] at h
    cases h
    refine ⟨Nat.le_trans (norm_len _) (Nat.le_trans (leafL_len n evs) (by omega)), norm_part hd fun p hp => ?_⟩
    obtain ⟨e, he, rfl⟩ := List.mem_map.1 hp
    have he := (List.mem_filter.1 he).1
    refine ⟨leaf_part hn (hv e he), List.cons_ne_nil _ _, fun b hb => ?_, fun b hb => ?_⟩
    · rw [List.mem_singleton.1 hb]; exact (n.vars_mem _).2 (.inl ⟨name_size hn, rfl⟩)
    · rw [List.mem_singleton.1 hb]; exact he
  · obtain ⟨hkk, hk2, _⟩ := hf.join hk
    by_cases h4 : n.kind = 4
    · have e2 : n.den evs = denGo 4 none (n.kids.map (Nd.den evs)) := by rw [Nd.den_eq, if_neg hk, h4]
      refine ⟨?_, ?_⟩
      · rw [Nd.denP_eq, if_neg hk, if_pos h4, e2, hmap]
        refine orP_den hd _ fun k hk l hl => ?_
        obtain ⟨x, hx, rfl⟩ := List.mem_map.1 hk
        exact (Nd.ref_den hd x).2 l hl
      · intro l h
        rw [e2] at h
        cases hkd : n.kids with
        | nil => rw [hkd] at hk2; simp at hk2
        | cons x ks =>
          have hxm : x ∈ n.kids := by rw [hkd]; exact List.mem_cons_self
          rw [hkd, List.map_cons] at h
          cases hxd : x.den evs with
          | none => rw [hxd] at h; cases h
          | some k =>
            rw [hxd] at h
            obtain ⟨h1, h2⟩ := (hks x hxm).part k hxd
            have e : denGo 4 none (some k :: ks.map (Nd.den evs)) = (capL k).bind fun m => denGo 4 (some m) (ks.map (Nd.den evs)) := rfl
            rw [e, capL, if_neg (by omega), Option.bind_some] at h
            refine go_part hd _ k h1 (fun p hp => (h2 p hp).sub (Nd.vars_kid hxm)) (fun r hr l' hl' p hp => ?_) l h
            obtain ⟨y, hy, rfl⟩ := List.mem_map.1 hr
            have hym : y ∈ n.kids := by rw [hkd]; exact List.mem_cons_of_mem _ hy
            exact (((hks y hym).part l' hl').2 p hp).sub (Nd.vars_kid hym)
    · have hkj : n.kind = 2 ∨ n.kind = 3 := by
        rcases hkk with h | h | h
        · exact .inl h
        · exact .inr h
        · exact absurd h h4
      have hap := Nd.binds_apart hf.binds hkj
      have e2 : n.den evs = denGo n.kind none (n.kids.map (Nd.den evs)) := by rw [Nd.den_eq, if_neg hk]
      have e1 : n.denP evs = joinP (decide (n.kind = 2)) none (n.kids.map (denOf evs)) := by rw [Nd.denP_eq, if_neg hk, if_neg h4]
      cases hkd : n.kids with
      | nil => rw [hkd] at hk2; simp at hk2
      | cons x ks =>
        have hxm : x ∈ n.kids := by rw [hkd]; exact List.mem_cons_self
        rw [hkd, List.map_cons] at e1 e2
        rw [hkd] at hap
        obtain ⟨hap1, hap2⟩ := List.pairwise_cons.1 hap
        rw [denOf, (hks x hxm).same] at e1
        cases hxd : x.den evs with
        | none =>
          rw [hxd] at e1 e2
          exact ⟨e1.trans e2.symm, fun l h => by rw [e2] at h; cases h⟩
        | some k =>
          rw [hxd] at e1 e2
          obtain ⟨h1, h2⟩ := (hks x hxm).part k hxd
          have e3 : denGo n.kind none (some k :: ks.map (Nd.den evs)) = (capL k).bind fun m => denGo n.kind (some m) (ks.map (Nd.den evs)) := rfl
          rw [e3, capL, if_neg (by omega), Option.bind_some] at e2
          obtain ⟨j1, j2⟩ := join_same hd h4 ks k x.vars x.vars (fun y hy => hks y (by rw [hkd]; exact List.mem_cons_of_mem _ hy)) hap1 hap2 h1 fun p hp => ⟨h2 p hp, fun _ => ends_all (h2 p hp)⟩
          refine ⟨e1.trans (j1.trans e2.symm), fun l h => ?_⟩
          rw [e2] at h
          obtain ⟨i1, i2⟩ := j2 l h
          refine ⟨i1, fun p hp => (i2 p hp).sub fun v hv => ?_⟩
          rcases List.mem_append.1 hv with hv | hv
          · exact Nd.vars_kid hxm v hv
          · obtain ⟨w, hw, hv⟩ := List.mem_flatten.1 hv
            obtain ⟨y, hy, rfl⟩ := List.mem_map.1 hw
            exact Nd.vars_kid (by rw [hkd]; exact List.mem_cons_of_mem _ hy) v hv
theorem nodeOut_same (n : Nd) (evs : List Ev) : nodeOut n evs (n.denP evs) = nodeOut n evs (n.ref evs) := by
 unfold nodeOut
 split
 ·rename_i h1
  split
  ·rename_i h2
   split
   ·rfl
   ·split
    ·rfl
    ·rename_i h3 h4
     obtain ⟨hz, hd⟩ := evsBad_no (by simpa using h4)
     rw [(Nd.kid_ok hd (by omega) hz n ⟨shape_err h1, h2⟩).same, (Nd.ref_den hd n).1]
  ·rfl
 ·rfl
def sA : ByteArray := ⟨#[65]⟩
def sB : ByteArray := ⟨#[66]⟩
def vA : ByteArray := ⟨#[97]⟩
def vB : ByteArray := ⟨#[98]⟩
def nA : Nd := ⟨1, vA, sA, [], []⟩
def nB : Nd := ⟨1, vB, sB, [], []⟩
def nS : Nd := ⟨2, ⟨#[]⟩, ⟨#[]⟩, [], [nA, nB]⟩
def pL : Pat := ⟨⟨#[112]⟩, 5, nS, []⟩
def ev1 : Ev := ⟨0, 0, 1, sA, []⟩
def ev2 : Ev := ⟨1, 0, 3, sB, []⟩
def ev3 : Ev := ⟨1, 1, 9, sB, []⟩
def evL : List Ev := [ev1, ev2, ev3]
def bA1 : Bd := ⟨vA, ev1⟩
def bB2 : Bd := ⟨vB, ev2⟩
def bB3 : Bd := ⟨vB, ev3⟩
theorem eAA : eqS sA sA = true := eqS_iff.2 rfl
theorem eBB : eqS sB sB = true := eqS_iff.2 rfl
theorem eAB : eqS sA sB = false := by simp [eqS, sA, sB]
theorem eBA : eqS sB sA = false := by simp [eqS, sA, sB]
theorem eba : eqS vB vA = false := by simp [eqS, vA, vB]
theorem lab : leS vA vB = true := by simp [vA, vB, leS_one]
theorem lba : leS vB vA = false := by simp [vA, vB, leS_one]
theorem shL : nS.shape = 0 := by rfl
theorem varsA : nA.vars = [vA] := by rfl
theorem varsB : nB.vars = [vB] := by rfl
theorem biL : nS.binds = 0 := by
 rw [Nd.binds_eq]
 show bindsFrom true [] [(nA.binds, nA.vars), (nB.binds, nB.vars)] = 0
 have h1 : nA.binds = 0 := by rw [Nd.binds_eq]; rfl
 have h2 : nB.binds = 0 := by rw [Nd.binds_eq]; rfl
 rw [h1, h2, varsA, varsB]
 simp [bindsFrom, meets, hasS, eba]
theorem badL : evsBad evL = false := by rfl
theorem tA1 : termB nA ev1 = true := by show (true && eqS sA sA && true) = true; rw [eAA]; rfl
theorem tA2 : ¬ termB nA ev2 = true := by show ¬ (true && eqS sB sA && true) = true; rw [eBA]; simp
theorem tA3 : ¬ termB nA ev3 = true := by show ¬ (true && eqS sB sA && true) = true; rw [eBA]; simp
theorem tB1 : ¬ termB nB ev1 = true := by show ¬ (true && eqS sA sB && true) = true; rw [eAB]; simp
theorem tB2 : termB nB ev2 = true := by show (true && eqS sB sB && true) = true; rw [eBB]; rfl
theorem tB3 : termB nB ev3 = true := by show (true && eqS sB sB && true) = true; rw [eBB]; rfl
theorem lfA : leafL nA evL = [[bA1]] := by
 show List.map _ (List.filter (termB nA) [ev1, ev2, ev3]) = _
 rw [List.filter_cons_of_pos tA1, List.filter_cons_of_neg tA2, List.filter_cons_of_neg tA3]; rfl
theorem lfB : leafL nB evL = [[bB2], [bB3]] := by
 show List.map _ (List.filter (termB nB) [ev1, ev2, ev3]) = _
 rw [List.filter_cons_of_neg tB1, List.filter_cons_of_pos tB2, List.filter_cons_of_pos tB3]; rfl
theorem pA1 : partErr [bA1] = 0 := leaf_part (by rfl) (by rfl)
theorem pB2 : partErr [bB2] = 0 := leaf_part (by rfl) (by rfl)
theorem pB3 : partErr [bB3] = 0 := leaf_part (by rfl) (by rfl)
theorem pAB2 : partErr [bA1, bB2] = 0 := by
 rw [part_iff]
 refine ⟨by simp, ?_, ?_⟩
 ·intro b hb
  simp at hb
  rcases hb with rfl | rfl <;> exact ⟨rfl, rfl⟩
 ·simp [Aft, bA1, bB2, lba, idOf, ev1, ev2]
theorem pAB3 : partErr [bA1, bB3] = 0 := by
 rw [part_iff]
 refine ⟨by simp, ?_, ?_⟩
 ·intro b hb
  simp at hb
  rcases hb with rfl | rfl <;> exact ⟨rfl, rfl⟩
 ·simp [Aft, bA1, bB3, lba, idOf, ev1, ev3]
theorem mgAB2 : mg [bA1] [bB2] = some [bA1, bB2] := by
 have e : mrg [bA1] [bB2] = [bA1, bB2] := by rw [mrg, if_pos (by simp [bA1, bB2, lab]), mrg]
 rw [mg, e, if_pos ⟨pA1, pB2, pAB2⟩]
theorem mgAB3 : mg [bA1] [bB3] = some [bA1, bB3] := by
 have e : mrg [bA1] [bB3] = [bA1, bB3] := by rw [mrg, if_pos (by simp [bA1, bB3, lab]), mrg]
 rw [mg, e, if_pos ⟨pA1, pB3, pAB3⟩]
theorem cmpS_refl (a : ByteArray) : cmpS a a = 0 := tri_S.refl a
theorem srtB : SrtL [[bB2], [bB3]] := by
 refine List.pairwise_cons.2 ⟨fun x hx => ?_, List.pairwise_singleton ..⟩
 rw [List.mem_singleton.1 hx]
 simp [cmpL, cmpBd, bB2, bB3, cmpS_refl, ev2, ev3, cmpId, orI, cmpI, idOf]
theorem srtAB : SrtL [[bA1, bB2], [bA1, bB3]] := by
 refine List.pairwise_cons.2 ⟨fun x hx => ?_, List.pairwise_singleton ..⟩
 rw [List.mem_singleton.1 hx]
 simp [cmpL, cmpBd, bA1, bB2, bB3, cmpS_refl, ev1, ev2, ev3, cmpId, orI, cmpI, idOf]
theorem distL : Dist evL := (evsBad_no badL).2
theorem denA : nA.den evL = some [[bA1]] := by
 rw [Nd.den_eq, if_pos (show nA.kind = 1 from rfl), lfA, norm_id (from_apt distL) (fun p hp b hb => ?_) (List.pairwise_singleton ..)]
 rw [List.mem_singleton.1 hp] at hb
 rw [List.mem_singleton.1 hb]; exact List.mem_cons_self
theorem frB : ∀ p ∈ [[bB2], [bB3]], From evL p := fun p hp b hb => by
 simp at hp
 rcases hp with rfl | rfl <;> (rw [List.mem_singleton.1 hb]; simp [evL, bB2, bB3])
theorem denB : nB.den evL = some [[bB2], [bB3]] := by
 rw [Nd.den_eq, if_pos (show nB.kind = 1 from rfl), lfB, norm_id (from_apt distL) frB srtB]
theorem frAB : ∀ p ∈ [[bA1, bB2], [bA1, bB3]], From evL p := fun p hp b hb => by
 simp at hp
 rcases hp with rfl | rfl <;> (simp at hb; rcases hb with rfl | rfl <;> simp [evL, bA1, bB2, bB3])
theorem pairL : pairsL true [[bA1]] [[bB2], [bB3]] = [[bA1, bB2], [bA1, bB3]] := by
 have h2 : late true [bA1] [bB2] = false := by rfl
 have h3 : late true [bA1] [bB3] = false := by rfl
 simp [pairsL, rowL, h2, h3, mgAB2, mgAB3]
theorem denL : nS.den evL = some [[bA1, bB2], [bA1, bB3]] := by
 rw [Nd.den_eq, if_neg (by decide)]
 show denGo 2 none [nA.den evL, nB.den evL] = _
 rw [denA, denB]
 show (capL (norm (stepL 2 [[bA1]] [[bB2], [bB3]]))).bind (fun l => some l) = _
 rw [stepL, if_neg (by decide)]
 show (capL (norm (pairsL true [[bA1]] [[bB2], [bB3]]))).bind (fun l => some l) = _
 rw [pairL, norm_id (from_apt distL) frAB srtAB]; rfl
theorem patL : patErr pL = 0 := by
 have h : patOwn pL = false := by rfl
 rw [patErr, h, if_neg Bool.false_ne_true, if_pos (show pL.node.shape = 0 from shL), if_pos (show pL.node.binds = 0 from biL)]
 rfl
theorem outL : allOut pL (nodeOut nS evL (nS.denP evL)) = ([[bA1, bB2]], 0) := by
 rw [nodeOut_same, (Nd.ref_den distL nS).1, denL, nodeOut, if_pos shL, if_pos biL, if_neg (by decide), badL, if_neg Bool.false_ne_true, optO, allOut, if_pos patL, if_pos rfl]
 rfl
theorem okNd_leaf {v t : ByteArray} (hv : v.size < 4611686018427387904) (ht : t.size < 4611686018427387904) : (Nd.mk 1 v t [] []).ok := by
 rw [Nd.ok_eq]
 exact ⟨⟨hv, ht, (by show 0 < 4611686018427387904; decide), fun c h => by cases h⟩, fun p h => by cases h⟩
theorem okS : nS.ok := by
 rw [Nd.ok_eq]
 refine ⟨⟨by decide, by decide, by decide, fun c h => by cases h⟩, fun p h => ?_⟩
 have h : p ∈ [nA.ok, nB.ok] := h
 rcases List.mem_cons.1 h with rfl | h
 ·exact okNd_leaf (by decide) (by decide)
 ·rw [List.mem_singleton.1 h]; exact okNd_leaf (by decide) (by decide)
theorem okPL : okPat pL := ⟨by decide, by show nS.size ≤ 1048576; rw [show nS.size = 3 from rfl]; decide, okS, by decide, fun c h => by cases h⟩
theorem okE_L : ∀ e ∈ evL, okE e := fun e he => by
 have h : ∀ e ∈ evL, e.type.size < 4611686018427387904 ∧ e.attrs = [] := by decide
 obtain ⟨h1, h2⟩ := h e he
 exact ⟨h1, by rw [h2]; decide, fun a ha => by rw [h2] at ha; cases ha⟩
theorem of_vA : ofB [bA1, bB2] [vA] = [bA1] := by
 have h1 : hasS [vA] bA1.var = true := hasS_iff.2 List.mem_cons_self
 have h2 : ¬ hasS [vA] bB2.var = true := fun h => by have := hasS_iff.1 h; simp [bB2, vA, vB] at this
 rw [ofB, List.filter_cons_of_pos (by exact h1), List.filter_cons_of_neg (by exact h2)]; rfl
theorem of_vB : ofB [bA1, bB2] [vB] = [bB2] := by
 have h1 : ¬ hasS [vB] bA1.var = true := fun h => by have := hasS_iff.1 h; simp [bA1, vA, vB] at this
 have h2 : hasS [vB] bB2.var = true := hasS_iff.2 List.mem_cons_self
 rw [ofB, List.filter_cons_of_neg (by exact h1), List.filter_cons_of_pos (by exact h2)]; rfl
theorem fitsL : nS.fitsP [bA1, bB2] = true := by
 have hA : nA.fitsP [bA1] = true := by
  rw [Nd.fitsP_eq, if_pos (show nA.kind = 1 from rfl)]
  show (eqS vA vA && termB nA ev1) = true
  rw [tA1, eqS_iff.2 rfl]; rfl
 have hB : nB.fitsP [bB2] = true := by
  rw [Nd.fitsP_eq, if_pos (show nB.kind = 1 from rfl)]
  show (eqS vB vB && termB nB ev2) = true
  rw [tB2, eqS_iff.2 rfl]; rfl
 rw [Nd.fitsP_eq, if_neg (show ¬ nS.kind = 1 by decide), if_neg (show ¬ nS.kind = 4 by decide)]
 show allFitP [bA1, bB2] (kidsFitP true [bA1, bB2] (-1) 0 [(nA.fitsP, [vA]), (nB.fitsP, [vB])]) = true
 simp only [kidsFitP, of_vA, of_vB, hA, hB]
 rfl
theorem isL : isP pL [bA1, bB2] = true := by
 rw [isP, Nd.FitsP, decide_eq_true patL, decide_eq_true (show pL.node.shape = 0 from shL), decide_eq_true (show pL.node.binds = 0 from biL), decide_eq_true pAB2, show pL.node.fitsP [bA1, bB2] = true from fitsL]
 rfl
end Go.Abs.M
namespace Go.Abs
open Go
section
variable {P : Program} {σ : Hp} {s : St} {n : Nat} {Q : Exit → St → Hp → Prop}
variable [Mode]
theorem VR.wkSl {w : World} {cx : Cx} {es : List (List V)} {x : Value} (h : VR w cx (.sl es) x) : VR w cx (.sl (es.map (List.map wk1))) x := by
  generalize hv : V.sl es = v at h
  cases h with
  | c x => cases hv
  | nils => injection hv with hv; subst hv; exact .nils
  | nile a => injection hv with hv; subst hv; exact .nile a
  | sl f hI hcap hlen hc hr h1 =>
    injection hv with hv
    subst hv
    have := VR.sl (w := w) (cx := cx) (es := es.map (List.map wk1)) f hI (by simpa using hcap) (fun i e he => by
      rw [List.getElem?_map, Option.map_eq_some_iff] at he
      obtain ⟨e', h', rfl⟩ := he
      rw [List.length_map]; exact hlen i e' h') (fun i j hi hj => hc i j (by simpa using hi) hj) (fun i e j v he hv => by
      rw [List.getElem?_map, Option.map_eq_some_iff] at he
      obtain ⟨e', h', rfl⟩ := he
      rw [List.getElem?_map, Option.map_eq_some_iff] at hv
      obtain ⟨v', hv', rfl⟩ := hv
      exact wk1_VR (hr i e' j v' h' hv')) (fun i j hi hj => h1 i j (by simpa using hi) hj)
    rwa [List.length_map] at this
  | _ => cases hv
def wkD : V → V
  | .sl es => .sl (es.map (List.map wk1))
  | v => wk1 v
theorem wkD_VR {w : World} {cx : Cx} {v : V} {x : Value} (h : VR w cx v x) : VR w cx (wkD v) x := by
 unfold wkD
 split
 ·exact h.wkSl
 ·exact wk1_VR h
def wkA : V → V
  | .agg vs => .agg (vs.map wkD)
  | v => wkD v
theorem wkA_VR {w : World} {cx : Cx} {v : V} {x : Value} (h : VR w cx v x) : VR w cx (wkA v) x := by
  unfold wkA
  split
  · cases h with
    | agg h1 hn hh =>
      refine .agg h1 (by simpa using hn) (fun i v x hv hx => ?_)
      rw [List.getElem?_map, Option.map_eq_some_iff] at hv
      obtain ⟨u, hu, rfl⟩ := hv
      exact wkD_VR (hh i u x hu hx)
  · exact wkD_VR h
theorem ACalls.wkA {f : FuncId} {args : List V} {R : V → Hp → Prop} (h : ACalls P f (args.map Go.Abs.wkA) σ R) : ACalls P f args σ R :=
 ⟨h.1, fun cx w xs hH ha => h.2 cx w xs hH ⟨by simpa using ha.1, fun i v x hv hx => by
  rw [List.getElem?_map, Option.map_eq_some_iff] at hv
  obtain ⟨u, hu, rfl⟩ := hv
  exact wkA_VR (ha.2 i u x hu hx)⟩⟩
end
end Go.Abs
namespace Go.Abs.M
open Go Go.Abs Go.Proofs
set_option maxRecDepth 20000
set_option maxHeartbeats 4000000
def fitN (n : Nd) : Bool := decide (n.terms ≤ 200) && decide (n.deep ≤ 50)
theorem fit_spec (n : Nd) (hn : n.small) : PCalls Tryz.prog 9 [.agg (encNd n)] (fun v => v = .c (.bool (fitN n))) := by
 have q2 : ((n.deep : Int) ≤ 50) = (n.deep ≤ 50) := by rw [eq_iff_iff]; omega
 refine PCalls.intro Tryz.call9 Tryz.func9 rfl Tryz.ntmps9 Tryz.results9 (by simp) ?_
 refine AW.sr @nd ?_
 refine AW.seq_j (fun s' σ' => σ' = Hp.empty ∧ s'.t 2 = .c (.bool (fitN n))) ?_ ?_
 ·by_cases ht : n.terms ≤ 200
  ·have q1 : ((n.terms : Int) ≤ 200) = True := eq_true (by omega)
   refine AW.reg0 ?_
   refine S.one (J3 @nd q1 q2) ?_
   (refine S.g rfl rfl fun Y Z => ?_; simp only [zz, simprocAttr, -Int.reduceNatCast', -Int.reduceToNat, nd, q1, q2]; refine PCalls.eqto (rterms_spec n hn) ?_ <;> (refine Z _ _ ?_; clear Z Y))
   all_goals (refine S.sp (J3 @nd q1 q2) fun b a5 => ?_; cases b <;> (try exact nope a5))
   all_goals iterate 2 refine S.one (J3 @nd q1 q2) ?_
   all_goals (first | (refine S.y rfl rfl rfl rfl fun Y Z => ?_; simp only [zz, simprocAttr, -Int.reduceNatCast', -Int.reduceToNat, nd, q1, q2]; refine PCalls.eqto (rdeep_spec n hn) ?_ <;> (refine Z _ _ ?_; clear Z Y)) | ((first | refine S.x rfl rfl rfl rfl fun Y Z => ?_ | refine S.u rfl rfl rfl rfl fun Y Z => ?_); simp only [ze, simprocAttr, -Int.reduceNatCast', -Int.reduceToNat]; refine Z _ _ ?_; clear Z Y))
   all_goals iterate 3 refine S.one (J3 @nd q1 q2) ?_
   all_goals refine S.nil ?_
   all_goals simp only [ze, simprocAttr, nd, q1, q2]
   all_goals simp_all [fitN]
  ·have q1 : ((n.terms : Int) ≤ 200) = False := eq_false (by omega)
   refine AW.reg0 ?_
   refine S.one (J3 @nd q1 q2) ?_
   (refine S.g rfl rfl fun Y Z => ?_; simp only [zz, simprocAttr, -Int.reduceNatCast', -Int.reduceToNat, nd, q1, q2]; refine PCalls.eqto (rterms_spec n hn) ?_ <;> (refine Z _ _ ?_; clear Z Y))
   all_goals (refine S.sp (J3 @nd q1 q2) fun b a5 => ?_; cases b <;> (try exact nope a5))
   all_goals iterate 2 refine S.one (J3 @nd q1 q2) ?_
   all_goals (first | (refine S.y rfl rfl rfl rfl fun Y Z => ?_; simp only [zz, simprocAttr, -Int.reduceNatCast', -Int.reduceToNat, nd, q1, q2]; refine PCalls.eqto (rdeep_spec n hn) ?_ <;> (refine Z _ _ ?_; clear Z Y)) | ((first | refine S.x rfl rfl rfl rfl fun Y Z => ?_ | refine S.u rfl rfl rfl rfl fun Y Z => ?_); simp only [ze, simprocAttr, -Int.reduceNatCast', -Int.reduceToNat]; refine Z _ _ ?_; clear Z Y))
   all_goals iterate 3 refine S.one (J3 @nd q1 q2) ?_
   all_goals refine S.nil ?_
   all_goals simp only [ze, simprocAttr, nd, q1, q2]
   all_goals (simp_all [fitN] <;> omega)
 rintro s σ ⟨rfl, e2⟩
 refine AW.ret ?_
 all_goals simp only [zs, simprocAttr, e2]
 all_goals ((try and_intros) <;> first | rfl | assumption | (rfl))
def liveC : List V := [.c (.string ⟨#[112]⟩), .c (.int .i64 5), .c (.int .i64 2), .c (.string ⟨#[]⟩), .c (.string ⟨#[]⟩), .c (.slice none 0 0), .sl [[.c (.int .i64 1), .c (.string ⟨#[97]⟩), .c (.string ⟨#[65]⟩), .c (.slice none 0 0), .c (.slice none 0 0)], [.c (.int .i64 1), .c (.string ⟨#[98]⟩), .c (.string ⟨#[66]⟩), .c (.slice none 0 0), .c (.slice none 0 0)]], .c (.slice none 0 0)]
def liveB : List (List V) := [[.c (.string ⟨#[97]⟩), .c (.int .i64 0), .c (.int .i64 0), .c (.int .i64 1), .c (.string ⟨#[65]⟩), .sl []], [.c (.string ⟨#[98]⟩), .c (.int .i64 1), .c (.int .i64 0), .c (.int .i64 3), .c (.string ⟨#[66]⟩), .sl []]]
theorem okP_L : okP [bA1, bB2] := fun b hb => by
 simp at hb
 rcases hb with rfl | rfl
 ·exact ⟨by decide, okE_L ev1 (by simp [evL])⟩
 ·exact ⟨by decide, okE_L ev2 (by simp [evL])⟩
theorem live_spec : PCalls Tryz.prog 10 [] (fun v => v = .c (.bool true)) := by
 have hall := All_P pL okPL evL (by decide) okE_L
 rw [show pL.node = nS from rfl, outL] at hall
 refine ACalls.bare (R := fun v _ => v = .c (.bool true)) (ACalls.intro Tryz.call10 Tryz.func10 rfl Tryz.ntmps10 Tryz.results10 (by simp) ?_) fun _ _ h => h
 refine AW.sr trivial ?_
 refine AW.seq_k fun K2 h2 => ?_
 refine AW.reg0 ?_
 iterate 2 refine S.one trivial ?_
 (refine S.g rfl rfl fun Y Z => ?_; simp only [zb, simprocAttr, -Int.reduceNatCast', -Int.reduceToNat, tt]; refine ⟨rfl, (by simp), ?_⟩ <;> (refine Z _ _ ?_; clear Z Y))
 all_goals iterate 4 refine S.one trivial ?_
 all_goals (refine S.nil ?_; simp only [ze, simprocAttr]; apply_assumption)
 refine AW.seq_k fun K3 h3 => ?_
 all_goals refine AW.reg0 ?_
 all_goals iterate 6 refine S.one trivial ?_
 all_goals (refine S.g rfl rfl fun Y Z => ?_; simp only [zb, simprocAttr, -Int.reduceNatCast', -Int.reduceToNat, tt]; refine ⟨rfl, (by simp), ?_⟩ <;> (refine Z _ _ ?_; clear Z Y))
 all_goals (refine S.g rfl rfl fun Y Z => ?_; simp only [zz, simprocAttr, -Int.reduceNatCast', -Int.reduceToNat]; (refine ACalls.wkA (ACalls.to hall ?_); rintro _ σ1 ⟨u, rfl, hown, hok, hlen⟩) <;> (refine Z _ _ ?_; clear Z Y))
 all_goals iterate 5 refine S.one trivial ?_
 all_goals (refine S.nil ?_; simp only [ze, simprocAttr]; apply_assumption)
 rcases hown with ⟨_, hl, _⟩ | ⟨k, rfl, _, rfl⟩
 ·cases hl
 refine AW.gen (fun s' => s'.t 1 = .lp 1 0 ∧ s'.l 1 = some liveC ∧ s'.t 2 = .gl k ∧ s'.t 3 = .c (.int .i64 0)) ?_ ?_
 ·simp only [zs, simprocAttr]
  all_goals ((try and_intros) <;> first | rfl | assumption | (rfl))
 rintro s ⟨e1, l1, e2, e3⟩
 refine AW.freeze (k := k) (T := (40, 1)) (es := [[bA1, bB2]].map encP) (by simp [hpP]) ?_
 have hem : (hpP Hp.empty k [[bA1, bB2]]).setGr k none = Hp.empty := by simp [hpP]
 rw [hem]
 have f1 : (s.fz k ([[bA1, bB2]].map encP)).t 1 = .lp 1 0 := by simp [e1, fzV, fz1]
 have f2 : (s.fz k ([[bA1, bB2]].map encP)).t 2 = .sl [[.sl liveB]] := by simp [e2, fzV, fz1]; rfl
 have f3 : (s.fz k ([[bA1, bB2]].map encP)).t 3 = .c (.int .i64 0) := by simp [e3, fzV, fz1]
 have m1 : (s.fz k ([[bA1, bB2]].map encP)).l 1 = some liveC := by simp [l1]; rfl
 generalize s.fz k ([[bA1, bB2]].map encP) = s at *
 have his := Is_spec pL [bA1, bB2] okPL okP_L (fun b hb => by simp at hb; rcases hb with rfl | rfl <;> decide) (by decide) (fun b hb => by simp at hb; rcases hb with rfl | rfl <;> (unfold inI64; decide)) (by unfold inI64; decide)
 rw [isL, show [bA1, bB2].map encBd = liveB from rfl] at his
 have h01 : ((0 : Int) < ((1 : Nat) : Int)) = True := eq_true (by decide)
 have h12 : ((1 : Int) < ((2 : Nat) : Int)) = True := eq_true (by decide)
 have h22 : (((2 : Nat) : Int) == 2) = true := rfl
 have h11 : (((1 : Nat) : Int) == 1) = true := rfl
 unfold liveB at his f2
 unfold liveC at m1
 refine AW.seq_k fun K4 h4 => ?_
 all_goals refine AW.dv { sd := fun d => d == 1 } [(0,0),(1,0),(2,0),(3,0),(4,0),(5,0),(6,0),(7,0),(8,0),(9,0),(10,0),(11,1),(12,0),(13,0),(14,0),(15,0),(16,0),(17,0),(18,0),(19,1),(20,0),(21,0),(22,0),(23,1),(24,0),(25,0),(26,0),(28,0),(29,0),(27,1),(30,1),(31,2),(32,0),(33,0)] ?_
 all_goals have q1q := J12 f1 m1 f2 f3 h01 h12 h22 h11 @Int.le_refl @Int.toNat_zero @Nat.zero_lt_one (J6 @Nat.lt_add_one @List.length_cons.{0} @List.length_nil.{0} @List.getD_cons_zero.{0} @List.getD_cons_succ.{0} @Int.toNat_one)
 all_goals (refine D.g rfl trivial rfl rfl fun Y Z => ?_; simp only [zz, simprocAttr, -Int.reduceNatCast', -Int.reduceToNat, q1q]; refine Z _ _ ?_; clear Z Y)
 all_goals (refine D.sp q1q fun b a21 => ?_; cases b <;> (try exact nope a21))
 all_goals have q2q := J12 f1 m1 f2 f3 h01 h12 h22 h11 @Int.le_refl @Int.toNat_zero @Nat.zero_lt_one (J6 @Nat.lt_add_one @List.length_cons.{0} @List.length_nil.{0} @List.getD_cons_zero.{0} @List.getD_cons_succ.{0} @Int.toNat_one)
 all_goals iterate 3 ((first | refine D.g rfl trivial rfl rfl fun Y Z => ?_ | refine D.y rfl trivial rfl rfl rfl rfl fun Y Z => ?_ | refine D.x rfl (fun h => by cases h) rfl rfl rfl rfl fun Y Z => ?_ | refine D.u rfl (fun h => by cases h) rfl rfl rfl rfl fun Y Z => ?_); simp only [zz, simprocAttr, -Int.reduceNatCast', -Int.reduceToNat, tt, q2q]; refine Z _ _ ?_; clear Z Y)
 all_goals (first | (refine D.sp q2q fun b a25 => ?_; cases b <;> (try exact nope a25)) | ((first | refine D.x rfl (fun h => by cases h) rfl rfl rfl rfl fun Y Z => ?_ | refine D.u rfl (fun h => by cases h) rfl rfl rfl rfl fun Y Z => ?_); simp only [ze, simprocAttr, -Int.reduceNatCast', -Int.reduceToNat]; refine Z _ _ ?_; clear Z Y))
 all_goals iterate 5 ((first | refine D.g rfl trivial rfl rfl fun Y Z => ?_ | refine D.y rfl trivial rfl rfl rfl rfl fun Y Z => ?_ | refine D.x rfl (fun h => by cases h) rfl rfl rfl rfl fun Y Z => ?_ | refine D.u rfl (fun h => by cases h) rfl rfl rfl rfl fun Y Z => ?_); simp only [zz, simprocAttr, -Int.reduceNatCast', -Int.reduceToNat, f1, m1, f2, f3, h01, h12, h22, h11, Int.le_refl, Int.toNat_zero, Nat.zero_lt_one, Nat.lt_add_one, List.length_cons, List.length_nil, List.getD_cons_zero, List.getD_cons_succ, Int.reduceLE, Int.reduceLT, Int.reduceToNat, Int.toNat_one, tt]; refine Z _ _ ?_; clear Z Y)
 all_goals ((first | refine D.y rfl (by first | rfl | (simp only [stC, ze, simprocAttr, -Int.reduceNatCast', -Int.reduceToNat, f1, m1, f2, f3, h01, h12, h22, h11, Int.le_refl, Int.toNat_zero, Nat.zero_lt_one, Nat.lt_add_one, List.length_cons, List.length_nil, List.getD_cons_zero, List.getD_cons_succ, Int.reduceLE, Int.reduceLT, Int.reduceToNat, Int.toNat_one]; first | done | rfl)) rfl rfl rfl rfl fun Y Z => ?_ | refine D.x rfl (fun _ => rfl) rfl rfl rfl rfl fun Y Z => ?_ | refine D.u rfl (fun _ => rfl) rfl rfl rfl rfl fun Y Z => ?_); simp only [zz, simprocAttr, -Int.reduceNatCast', -Int.reduceToNat, tt, f1, m1, f2, f3, h01, h12, h22, h11, Int.le_refl, Int.toNat_zero, Nat.zero_lt_one, Nat.lt_add_one, List.length_cons, List.length_nil, List.getD_cons_zero, List.getD_cons_succ, Int.reduceLE, Int.reduceLT, Int.reduceToNat, Int.toNat_one]; refine Z _ _ ?_; clear Z Y)
 all_goals have q3q := J12 f1 m1 f2 f3 h01 h12 h22 h11 @Int.le_refl @Int.toNat_zero @Nat.zero_lt_one (J6 @Nat.lt_add_one @List.length_cons.{0} @List.length_nil.{0} @List.getD_cons_zero.{0} @List.getD_cons_succ.{0} @Int.toNat_one)
 all_goals ((first | refine D.y rfl trivial rfl rfl rfl rfl fun Y Z => ?_ | refine D.x rfl (fun h => by cases h) rfl rfl rfl rfl fun Y Z => ?_ | refine D.u rfl (fun h => by cases h) rfl rfl rfl rfl fun Y Z => ?_); simp only [zz, simprocAttr, -Int.reduceNatCast', -Int.reduceToNat, tt, q3q]; refine Z _ _ ?_; clear Z Y)
 all_goals (first | (refine D.sp q3q fun b a33 => ?_; cases b <;> (try exact nope a33)) | ((first | refine D.x rfl (fun h => by cases h) rfl rfl rfl rfl fun Y Z => ?_ | refine D.u rfl (fun h => by cases h) rfl rfl rfl rfl fun Y Z => ?_); simp only [ze, simprocAttr, -Int.reduceNatCast', -Int.reduceToNat]; refine Z _ _ ?_; clear Z Y))
 all_goals iterate 5 ((first | refine D.g rfl trivial rfl rfl fun Y Z => ?_ | refine D.y rfl trivial rfl rfl rfl rfl fun Y Z => ?_ | refine D.x rfl (fun h => by cases h) rfl rfl rfl rfl fun Y Z => ?_ | refine D.u rfl (fun h => by cases h) rfl rfl rfl rfl fun Y Z => ?_); simp only [zz, simprocAttr, -Int.reduceNatCast', -Int.reduceToNat, f1, m1, f2, f3, h01, h12, h22, h11, Int.le_refl, Int.toNat_zero, Nat.zero_lt_one, Nat.lt_add_one, List.length_cons, List.length_nil, List.getD_cons_zero, List.getD_cons_succ, Int.reduceLE, Int.reduceLT, Int.reduceToNat, Int.toNat_one, tt]; refine Z _ _ ?_; clear Z Y)
 all_goals ((first | refine D.y rfl (by first | rfl | (simp only [stC, ze, simprocAttr, -Int.reduceNatCast', -Int.reduceToNat, f1, m1, f2, f3, h01, h12, h22, h11, Int.le_refl, Int.toNat_zero, Nat.zero_lt_one, Nat.lt_add_one, List.length_cons, List.length_nil, List.getD_cons_zero, List.getD_cons_succ, Int.reduceLE, Int.reduceLT, Int.reduceToNat, Int.toNat_one]; first | done | rfl)) rfl rfl rfl rfl fun Y Z => ?_ | refine D.x rfl (fun _ => rfl) rfl rfl rfl rfl fun Y Z => ?_ | refine D.u rfl (fun _ => rfl) rfl rfl rfl rfl fun Y Z => ?_); simp only [zz, simprocAttr, -Int.reduceNatCast', -Int.reduceToNat, tt, f1, m1, f2, f3, h01, h12, h22, h11, Int.le_refl, Int.toNat_zero, Nat.zero_lt_one, Nat.lt_add_one, List.length_cons, List.length_nil, List.getD_cons_zero, List.getD_cons_succ, Int.reduceLE, Int.reduceLT, Int.reduceToNat, Int.toNat_one]; refine Z _ _ ?_; clear Z Y)
 all_goals iterate 3 ((first | refine D.y rfl trivial rfl rfl rfl rfl fun Y Z => ?_ | refine D.x rfl (fun h => by cases h) rfl rfl rfl rfl fun Y Z => ?_ | refine D.u rfl (fun h => by cases h) rfl rfl rfl rfl fun Y Z => ?_); simp only [zz, simprocAttr, -Int.reduceNatCast', -Int.reduceToNat, tt, f1, m1, f2, f3, h01, h12, h22, h11, Int.le_refl, Int.toNat_zero, Nat.zero_lt_one, Nat.lt_add_one, List.length_cons, List.length_nil, List.getD_cons_zero, List.getD_cons_succ, Int.reduceLE, Int.reduceLT, Int.reduceToNat, Int.toNat_one]; refine Z _ _ ?_; clear Z Y)
 all_goals have q4q := J12 f1 m1 f2 f3 h01 h12 h22 h11 @Int.le_refl @Int.toNat_zero @Nat.zero_lt_one (J6 @Nat.lt_add_one @List.length_cons.{0} @List.length_nil.{0} @List.getD_cons_zero.{0} @List.getD_cons_succ.{0} @Int.toNat_one)
 all_goals ((first | refine D.y rfl (by first | rfl | (simp only [stC, ze, simprocAttr, -Int.reduceNatCast', -Int.reduceToNat, f1, m1, f2, f3, h01, h12, h22, h11, Int.le_refl, Int.toNat_zero, Nat.zero_lt_one, Nat.lt_add_one, List.length_cons, List.length_nil, List.getD_cons_zero, List.getD_cons_succ, Int.reduceLE, Int.reduceLT, Int.reduceToNat, Int.toNat_one]; first | done | rfl)) rfl rfl rfl rfl fun Y Z => ?_ | refine D.x rfl (fun _ => rfl) rfl rfl rfl rfl fun Y Z => ?_ | refine D.u rfl (fun _ => rfl) rfl rfl rfl rfl fun Y Z => ?_); simp only [zz, simprocAttr, -Int.reduceNatCast', -Int.reduceToNat, tt, q4q]; refine Z _ _ ?_; clear Z Y)
 all_goals (first | (refine D.sp q4q fun b a44 => ?_; cases b <;> (try exact nope a44)) | ((first | refine D.x rfl (fun h => by cases h) rfl rfl rfl rfl fun Y Z => ?_ | refine D.u rfl (fun h => by cases h) rfl rfl rfl rfl fun Y Z => ?_); simp only [ze, simprocAttr, -Int.reduceNatCast', -Int.reduceToNat]; refine Z _ _ ?_; clear Z Y))
 all_goals iterate 4 ((first | refine D.g rfl trivial rfl rfl fun Y Z => ?_ | refine D.y rfl trivial rfl rfl rfl rfl fun Y Z => ?_ | refine D.x rfl (fun h => by cases h) rfl rfl rfl rfl fun Y Z => ?_ | refine D.u rfl (fun h => by cases h) rfl rfl rfl rfl fun Y Z => ?_); simp only [zz, simprocAttr, -Int.reduceNatCast', -Int.reduceToNat, f1, m1, f2, f3, h01, h12, h22, h11, Int.le_refl, Int.toNat_zero, Nat.zero_lt_one, Nat.lt_add_one, List.length_cons, List.length_nil, List.getD_cons_zero, List.getD_cons_succ, Int.reduceLE, Int.reduceLT, Int.reduceToNat, Int.toNat_one, tt]; refine Z _ _ ?_; clear Z Y)
 all_goals iterate 2 ((first | refine D.y rfl (by first | rfl | (simp only [stC, ze, simprocAttr, -Int.reduceNatCast', -Int.reduceToNat, f1, m1, f2, f3, h01, h12, h22, h11, Int.le_refl, Int.toNat_zero, Nat.zero_lt_one, Nat.lt_add_one, List.length_cons, List.length_nil, List.getD_cons_zero, List.getD_cons_succ, Int.reduceLE, Int.reduceLT, Int.reduceToNat, Int.toNat_one]; first | done | rfl)) rfl rfl rfl rfl fun Y Z => ?_ | refine D.x rfl (fun _ => rfl) rfl rfl rfl rfl fun Y Z => ?_ | refine D.u rfl (fun _ => rfl) rfl rfl rfl rfl fun Y Z => ?_); simp only [zz, simprocAttr, -Int.reduceNatCast', -Int.reduceToNat, tt, f1, m1, f2, f3, h01, h12, h22, h11, Int.le_refl, Int.toNat_zero, Nat.zero_lt_one, Nat.lt_add_one, List.length_cons, List.length_nil, List.getD_cons_zero, List.getD_cons_succ, Int.reduceLE, Int.reduceLT, Int.reduceToNat, Int.toNat_one]; refine Z _ _ ?_; clear Z Y)
 all_goals (first | (refine D.y rfl trivial rfl rfl rfl rfl fun Y Z => ?_; simp only [zz, simprocAttr, -Int.reduceNatCast', -Int.reduceToNat, f1, m1, f2, f3, h01, h12, h22, h11, Int.le_refl, Int.toNat_zero, Nat.zero_lt_one, Nat.lt_add_one, List.length_cons, List.length_nil, List.getD_cons_zero, List.getD_cons_succ, Int.reduceLE, Int.reduceLT, Int.reduceToNat, Int.toNat_one]; (refine ACalls.wkA (PCalls.eqto his ?_)) <;> (refine Z _ _ ?_; clear Z Y)) | ((first | refine D.x rfl (fun h => by cases h) rfl rfl rfl rfl fun Y Z => ?_ | refine D.u rfl (fun h => by cases h) rfl rfl rfl rfl fun Y Z => ?_); simp only [ze, simprocAttr, -Int.reduceNatCast', -Int.reduceToNat]; refine Z _ _ ?_; clear Z Y))
 all_goals iterate 2 (refine D.g rfl trivial rfl rfl fun Y Z => ?_; simp only [zz, simprocAttr, -Int.reduceNatCast', -Int.reduceToNat, f1, m1, f2, f3, h01, h12, h22, h11, Int.le_refl, Int.toNat_zero, Nat.zero_lt_one, Nat.lt_add_one, List.length_cons, List.length_nil, List.getD_cons_zero, List.getD_cons_succ, Int.reduceLE, Int.reduceLT, Int.reduceToNat, Int.toNat_one]; refine Z _ _ ?_; clear Z Y)
 all_goals (refine D.nil ?_; apply_assumption)
 refine AW.ret ?_
 all_goals simp only [zs, simprocAttr]
 all_goals ((try and_intros) <;> first | rfl | assumption | (rfl))
def Turned (l es : List Ev) (i : Nat) : Prop := es.length = l.length ∧ ∀ x, x < l.length → es[x]? = if x < i ∨ l.length - i ≤ x then l[l.length - 1 - x]? else l[x]?
theorem Turned.done {l es : List Ev} {i : Nat} (h : Turned l es i) (hi : ¬ (i : Int) < (l.length : Int) - 1 - i) : es = l.reverse := by
 obtain ⟨h1, h2⟩ := h
 apply List.ext_getElem?
 intro x
 by_cases hx : x < l.length
 ·rw [h2 x hx, List.getElem?_reverse hx]
  split
  ·rfl
  ·rename_i h
   congr 1
   omega
 ·rw [List.getElem?_eq_none (by omega), List.getElem?_eq_none (by simp; omega)]
theorem encPat_fix (p : Pat) : ∀ k es, (encPat p).map (fz1 k es) = encPat p := fun k es => by rw [encPat]; rfl
theorem ofB_ofB {p : List Bd} {us ws : List ByteArray} (h : ∀ v ∈ ws, v ∈ us) : ofB (ofB p us) ws = ofB p ws := by
 unfold ofB
 rw [List.filter_filter]
 refine List.filter_congr fun b _ => ?_
 cases hw : hasS ws b.var
 ·rfl
 ·rw [hasS_iff.2 (h _ (hasS_iff.1 hw))]; rfl
theorem ofB_app_len {us vs : List ByteArray} (h : ∀ v ∈ vs, v ∉ us) (p : List Bd) : (ofB p (us ++ vs)).length = (ofB p us).length + (ofB p vs).length := by
  induction p with
  | nil => rfl
  | cons b p ih =>
    have e : ∀ ws, ofB (b :: p) ws = if hasS ws b.var = true then b :: ofB p ws else ofB p ws := fun ws => List.filter_cons
    rw [e, e, e]
    by_cases h1 : b.var ∈ us
    · have h2 : b.var ∉ vs := fun k => h _ k h1
      rw [if_pos (hasS_iff.2 (List.mem_append_left _ h1)), if_pos (hasS_iff.2 h1), if_neg (fun k => h2 (hasS_iff.1 k))]
      simp only [List.length_cons]; omega
    · by_cases h2 : b.var ∈ vs
      · rw [if_pos (hasS_iff.2 (List.mem_append_right _ h2)), if_neg (fun k => h1 (hasS_iff.1 k)), if_pos (hasS_iff.2 h2)]
        simp only [List.length_cons]; omega
      · rw [if_neg (fun k => (List.mem_append.1 (hasS_iff.1 k)).elim h1 h2), if_neg (fun k => h1 (hasS_iff.1 k)), if_neg (fun k => h2 (hasS_iff.1 k))]
        exact ih
theorem pairs_of {evs : List Ev} {two : Bool} {us vs : List ByteArray} {a l : List (List Bd)} {p : List Bd} (hp : partErr p = 0) (ha : ∀ q ∈ a, PartOf evs us q) (hl : ∀ q ∈ l, PartOf evs vs q) (hd : ∀ v ∈ vs, v ∉ us) :
  ofB p (us ++ vs) ∈ pairsL two a l ↔ ofB p us ∈ a ∧ ofB p vs ∈ l ∧ late two (ofB p us) (ofB p vs) = false := by
 have e1 : ofB (ofB p (us ++ vs)) us = ofB p us := ofB_ofB fun v h => List.mem_append_left _ h
 have e2 : ofB (ofB p (us ++ vs)) vs = ofB p vs := ofB_ofB fun v h => List.mem_append_right _ h
 have hm := part_of hp (us ++ vs)
 constructor
 ·intro h
  obtain ⟨q, hq, h⟩ := List.mem_flatMap.1 h
  obtain ⟨r, hr, h⟩ := List.mem_filterMap.1 h
  split at h
  ·cases h
  ·rename_i hlt
   have k1 : ofB p us = q := by
    rw [← e1, ofB_left h fun b hb k => hd _ ((hl r hr).vars b hb) k, ofB_all (ha q hq).vars]
   have k2 : ofB p vs = r := by
    rw [← e2]; exact ofB_right h (fun b hb k => hd _ k ((ha q hq).vars b hb)) (hl r hr).vars
   rw [k1, k2]
   exact ⟨hq, hr, by simpa using hlt⟩
 ·rintro ⟨h1, h2, h3⟩
  refine List.mem_flatMap.2 ⟨_, h1, List.mem_filterMap.2 ⟨_, h2, ?_⟩⟩
  rw [if_neg (by rw [h3]; exact Bool.false_ne_true)]
  have hs := mg_split hm fun b => hasS vs b.var
  have e3 : ((ofB p (us ++ vs)).filter fun b => !(hasS vs b.var)) = ofB p us := by
   rw [← e1]
   refine List.filter_congr fun b hb => ?_
   have hb := (ofB_mem.1 hb).2
   cases hv : hasS vs b.var
   ·rcases List.mem_append.1 hb with k | k
    ·rw [hasS_iff.2 k]; rfl
    ·rw [hasS_iff.2 k] at hv; cases hv
   ·cases hu : hasS us b.var
    ·rfl
    ·exact absurd (hasS_iff.1 hu) (hd _ (hasS_iff.1 hv))
  rw [e3, show (ofB p (us ++ vs)).filter (fun b => hasS vs b.var) = ofB p vs from e2] at hs
  exact hs
def Tells (evs : List Ev) (n : Nd) : Prop := ∀ l, n.den evs = some l → ∀ q, partErr q = 0 → From evs q → (q ∈ l ↔ n.fits q = true)
theorem ofB_from {evs : List Ev} {p : List Bd} (h : From evs p) (vs : List ByteArray) : From evs (ofB p vs) := fun b hb => h b (ofB_mem.1 hb).1
theorem go_fits {evs : List Ev} (hd : Dist evs) {kind : Int} (hk : kind ≠ 4) {p : List Bd} (hp : partErr p = 0) (hf : From evs p) : ∀ (ks : List Nd) (a : List (List Bd)) (us vs : List ByteArray),
    (∀ x ∈ ks, KidOk evs x ∧ Tells evs x) → (∀ x ∈ ks, ∀ v ∈ x.vars, v ∉ us) → Apart ks → (∀ q ∈ a, PartOf evs us q) → (∀ v ∈ vs, v ∈ us) →
    ∀ l, denGo kind (some a) (ks.map (Nd.den evs)) = some l →
      (ofB p us ∉ a → ofB p (us ++ (ks.map Nd.vars).flatten) ∉ l) ∧
      (ofB p us ∈ a → (decide (kind = 2) = true → Ends vs (ofB p us)) → ∀ s, (ofB p (us ++ (ks.map Nd.vars).flatten) ∈ l ↔ (kidsFit (decide (kind = 2)) p (some (ofB p vs)) s (ks.map fitOf)).isSome = true))
  | [], a, us, vs, _, _, _, _, _, l, h => by
    cases h
    rw [List.map_nil, List.flatten_nil, List.append_nil]
    exact ⟨id, fun h _ s => ⟨fun _ => rfl, fun _ => h⟩⟩
  | x :: ks, a, us, vs, hks, hno, hap, ha, hvs, l, h => by
    obtain ⟨hx, hxt⟩ := hks x List.mem_cons_self
    rw [List.map_cons] at h
    cases hxd : x.den evs with
    | none => rw [hxd] at h; cases h
    | some lx =>
      have hlp := (hx.part lx hxd).2
      have hxno := hno x List.mem_cons_self
      have e2 : denGo kind (some a) (some lx :: ks.map (Nd.den evs)) = (capL (norm (stepL kind a lx))).bind fun m => denGo kind (some m) (ks.map (Nd.den evs)) := rfl
      rw [hxd, e2, stepL, if_neg hk] at h
      cases hc : capL (norm (pairsL (decide (kind = 2)) a lx)) with
      | none => rw [hc] at h; cases h
      | some m =>
        rw [hc, Option.bind_some] at h
        obtain ⟨rfl, _⟩ := capL_some hc
        have hP := pairs_part (two := decide (kind = 2)) (us := us ++ x.vars) ha hlp (fun v hv => List.mem_append_left _ hv) (fun v hv => List.mem_append_right _ hv) hxno
        have hnm : ∀ y, y ∈ norm (pairsL (decide (kind = 2)) a lx) ↔ y ∈ pairsL (decide (kind = 2)) a lx := norm_mem (from_apt hd) fun y hy => (hP y hy).1.of
        obtain ⟨hap1, hap2⟩ := List.pairwise_cons.1 hap
        obtain ⟨i1, i2⟩ := go_fits hd hk hp hf ks _ (us ++ x.vars) x.vars (fun y hy => hks y (List.mem_cons_of_mem _ hy)) (fun y hy v hv h => (List.mem_append.1 h).elim (hno y (List.mem_cons_of_mem _ hy) v hv) (hap1 y hy v hv)) hap2 (fun q hq => (hP q ((hnm q).1 hq)).1) (fun v hv => List.mem_append_right _ hv) l h
        have e3 : us ++ ((x :: ks).map Nd.vars).flatten = (us ++ x.vars) ++ (ks.map Nd.vars).flatten := by simp
        rw [e3]
        rw [hnm, pairs_of hp ha hlp hxno] at i1 i2
        refine ⟨fun hna => i1 fun k => hna k.1, fun hia hends s => ?_⟩
        have hfit := hxt lx hxd (ofB p x.vars) (part_of hp _) (ofB_from hf _)
        have hlate : late (decide (kind = 2)) (ofB p us) (ofB p x.vars) = (decide (kind = 2) && (some (ofB p vs)).any fun y => decide (beginOf (ofB p x.vars) ≤ endOf y)) := by
          unfold late
          cases h2 : decide (kind = 2) with
          | false => rfl
          | true =>
            have := (hends h2).same
            rw [ofB_ofB hvs] at this
            rw [this]; rfl
        rw [List.map_cons, fitOf, kidsFit, ← hlate]
        cases hxf : x.fits (ofB p x.vars) with
        | false =>
          rw [hxf] at hfit
          rw [if_pos rfl]
          exact ⟨fun k => absurd k (i1 fun k => Bool.false_ne_true (hfit.1 k.2.1)), fun k => by cases k⟩
        | true =>
          rw [hxf] at hfit
          rw [if_neg (fun e => by cases e)]
          have hin := hfit.2 rfl
          cases hlt : late (decide (kind = 2)) (ofB p us) (ofB p x.vars) with
          | true =>
            rw [if_pos rfl]
            exact ⟨fun k => absurd k (i1 fun k => by rw [hlt] at k; exact Bool.noConfusion k.2.2), fun k => by cases k⟩
          | false =>
            rw [if_neg (fun e => by cases e)]
            exact i2 ⟨hia, hin, hlt⟩ (fun h2 => (hP _ ((pairs_of hp ha hlp hxno).2 ⟨hia, hin, hlt⟩)).2 h2) _
theorem kids_sum {two : Bool} {p : List Bd} : ∀ (ks : List Nd) (prev : Option (List Bd)) (s s' : Nat), kidsFit two p prev s (ks.map fitOf) = some s' → s' = s + (ks.map fun x => (ofB p x.vars).length).sum
  | [], prev, s, s', h => by cases h; rfl
  | x :: ks, prev, s, s', h => by
    rw [List.map_cons, fitOf, kidsFit] at h
    split at h
    · cases h
    · split at h
      · cases h
      · have := kids_sum ks _ _ _ h
        simp only [List.map_cons, List.sum_cons]; omega
theorem ofB_all_len (p : List Bd) : ∀ (ks : List Nd) (us : List ByteArray), (∀ x ∈ ks, ∀ v ∈ x.vars, v ∉ us) → Apart ks → (ofB p (us ++ (ks.map Nd.vars).flatten)).length = (ofB p us).length + (ks.map fun x => (ofB p x.vars).length).sum
  | [], us, _, _ => by simp
  | x :: ks, us, hno, hap => by
    obtain ⟨hap1, hap2⟩ := List.pairwise_cons.1 hap
    have e3 : us ++ ((x :: ks).map Nd.vars).flatten = (us ++ x.vars) ++ (ks.map Nd.vars).flatten := by simp
    rw [e3, ofB_all_len p ks (us ++ x.vars) (fun y hy v hv h => (List.mem_append.1 h).elim (hno y (List.mem_cons_of_mem _ hy) v hv) (hap1 y hy v hv)) hap2, ofB_app_len (hno x List.mem_cons_self)]
    simp only [List.map_cons, List.sum_cons]; omega
theorem or_fits {evs : List Ev} (hd : Dist evs) {q : List Bd} (hq : partErr q = 0) (hf : From evs q) : ∀ (ks : List Nd) (a : List (List Bd)), Good evs a → (∀ x ∈ ks, Tells evs x) → ∀ l, denGo 4 (some a) (ks.map (Nd.den evs)) = some l → (q ∈ l ↔ q ∈ a ∨ ks.any (fun x => x.fits q) = true)
  | [], a, _, _, l, h => by cases h; simp
  | x :: ks, a, ha, hks, l, h => by
    rw [List.map_cons] at h
    cases hxd : x.den evs with
    | none => rw [hxd] at h; cases h
    | some lx =>
      have g := (Nd.ref_den hd x).2 lx hxd
      have e2 : denGo 4 (some a) (some lx :: ks.map (Nd.den evs)) = (capL (norm (a ++ lx))).bind fun m => denGo 4 (some m) (ks.map (Nd.den evs)) := rfl
      rw [hxd, e2] at h
      cases hc : capL (norm (a ++ lx)) with
      | none => rw [hc] at h; cases h
      | some m =>
        rw [hc, Option.bind_some] at h
        obtain ⟨rfl, _⟩ := capL_some hc
        have hfr : ∀ p ∈ a ++ lx, From evs p := fun p hp => (List.mem_append.1 hp).elim (ha.of p) (g.of p)
        rw [or_fits hd hq hf ks _ (Good.norm hd hfr) (fun y hy => hks y (List.mem_cons_of_mem _ hy)) l h, norm_mem (from_apt hd) hfr, List.mem_append, hks x List.mem_cons_self lx hxd q hq hf, List.any_cons, Bool.or_eq_true, or_assoc]
theorem Nd.tells {evs : List Ev} (hd : Dist evs) (hl : evs.length ≤ 64) (hv : ∀ e ∈ evs, evErr e = 0) : ∀ n : Nd, n.fine → Tells evs n := Nd.ind fun n ih hf l h q hq hqf => by
  have hok := Nd.kid_ok hd hl hv
  have hks : ∀ x ∈ n.kids, KidOk evs x ∧ Tells evs x := fun x hx => ⟨hok x (hf.kid hx), ih x hx (hf.kid hx)⟩
  by_cases hk : n.kind = 1
  · rw [Nd.den_eq, if_pos hk] at h
    cases h
    rw [norm_mem (from_apt hd) (leafL_from n evs), Nd.fits_eq, if_pos hk, leafL, List.mem_map]
    constructor
    · rintro ⟨e, he, rfl⟩
      rw [leafFits, (List.mem_filter.1 he).2, eqS_iff.2 rfl]; rfl
    · intro k
      match q, hqf, k with
      | [b], hqf, k =>
        rw [leafFits, Bool.and_eq_true] at k
        have e := eqS_iff.1 k.1
        exact ⟨b.ev, List.mem_filter.2 ⟨hqf b List.mem_cons_self, k.2⟩, by rw [← e]⟩
  · obtain ⟨hkk, hk2, _⟩ := hf.join hk
    by_cases h4 : n.kind = 4
    · rw [Nd.den_eq, if_neg hk, h4] at h
      rw [Nd.fits_eq, if_neg hk, if_pos h4]
      cases hkd : n.kids with
      | nil => rw [hkd] at hk2; simp at hk2
      | cons x ks =>
        have hxm : x ∈ n.kids := by rw [hkd]; exact List.mem_cons_self
        rw [hkd, List.map_cons] at h
        cases hxd : x.den evs with
        | none => rw [hxd] at h; cases h
        | some k =>
          rw [hxd] at h
          have e : denGo 4 none (some k :: ks.map (Nd.den evs)) = (capL k).bind fun m => denGo 4 (some m) (ks.map (Nd.den evs)) := rfl
          rw [e] at h
          cases hc : capL k with
          | none => rw [hc] at h; cases h
          | some m =>
            rw [hc, Option.bind_some] at h
            obtain ⟨rfl, _⟩ := capL_some hc
            rw [or_fits hd hq hqf ks _ ((Nd.ref_den hd x).2 _ hxd) (fun y hy => (hks y (by rw [hkd]; exact List.mem_cons_of_mem _ hy)).2) l h, (hks x hxm).2 _ hxd q hq hqf, List.any_cons, Bool.or_eq_true]
    · have hkj : n.kind = 2 ∨ n.kind = 3 := by
        rcases hkk with h | h | h
        · exact .inl h
        · exact .inr h
        · exact absurd h h4
      have hap := Nd.binds_apart hf.binds hkj
      rw [Nd.den_eq, if_neg hk] at h
      rw [Nd.fits_eq, if_neg hk, if_neg h4]
      cases hkd : n.kids with
      | nil => rw [hkd] at hk2; simp at hk2
      | cons x ks =>
        have hxm : x ∈ n.kids := by rw [hkd]; exact List.mem_cons_self
        rw [hkd, List.map_cons] at h
        rw [hkd] at hap
        obtain ⟨hap1, hap2⟩ := List.pairwise_cons.1 hap
        cases hxd : x.den evs with
        | none => rw [hxd] at h; cases h
        | some k =>
          rw [hxd] at h
          obtain ⟨h1, h2⟩ := (hks x hxm).1.part k hxd
          have e3 : denGo n.kind none (some k :: ks.map (Nd.den evs)) = (capL k).bind fun m => denGo n.kind (some m) (ks.map (Nd.den evs)) := rfl
          rw [e3, capL, if_neg (by omega), Option.bind_some] at h
          have hks' : ∀ y ∈ ks, KidOk evs y ∧ Tells evs y := fun y hy => hks y (by rw [hkd]; exact List.mem_cons_of_mem _ hy)
          obtain ⟨j1, j2⟩ := join_same hd h4 ks k x.vars x.vars (fun y hy => (hks' y hy).1) hap1 hap2 h1 fun p hp => ⟨h2 p hp, fun _ => ends_all (h2 p hp)⟩
          obtain ⟨g1, g2⟩ := go_fits hd h4 hq hqf ks k x.vars x.vars hks' hap1 hap2 h2 (fun v hv => hv) l h
          have hfit := (hks x hxm).2 k hxd (ofB q x.vars) (part_of hq _) (ofB_from hqf _)
          have hlen := ofB_all_len q ks x.vars hap1 hap2
          rw [List.map_cons, fitOf, kidsFit]
          constructor
          · intro hin
            have hall : ofB q (x.vars ++ (ks.map Nd.vars).flatten) = q := ofB_all ((j2 l h).2 q hin).vars
            have hxin : ofB q x.vars ∈ k := by
              by_cases hc : ofB q x.vars ∈ k
              · exact hc
              · exact absurd (hall.symm ▸ hin) (g1 hc)
            rw [hfit.1 hxin, if_neg (fun e => by cases e), if_neg (by simp)]
            have hs := (g2 hxin (fun _ => ends_all (h2 _ hxin)) (0 + (ofB q x.vars).length)).1 (hall.symm ▸ hin)
            cases hkf : kidsFit (decide (n.kind = 2)) q (some (ofB q x.vars)) (0 + (ofB q x.vars).length) (ks.map fitOf) with
            | none => rw [hkf] at hs; cases hs
            | some s =>
              have := kids_sum ks _ _ _ hkf
              rw [hall] at hlen
              have e : s = q.length := by omega
              rw [e, allFit, apart_of hq]; simp
          · intro hfa
            cases hxf : x.fits (ofB q x.vars) with
            | false => rw [hxf, if_pos rfl] at hfa; cases hfa
            | true =>
              have hxin := hfit.2 hxf
              rw [hxf, if_neg (fun e => by cases e), if_neg (by simp)] at hfa
              cases hkf : kidsFit (decide (n.kind = 2)) q (some (ofB q x.vars)) (0 + (ofB q x.vars).length) (ks.map fitOf) with
              | none => rw [hkf] at hfa; cases hfa
              | some s =>
                rw [hkf, allFit, Bool.and_eq_true, beq_iff_eq] at hfa
                have hsm := kids_sum ks _ _ _ hkf
                have hin := (g2 hxin (fun _ => ends_all (h2 _ hxin)) (0 + (ofB q x.vars).length)).2 (by rw [hkf]; rfl)
                have hall : ofB q (x.vars ++ (ks.map Nd.vars).flatten) = q := List.filter_eq_self.2 (List.length_filter_eq_length_iff.1 (show (ofB q _).length = q.length by omega))
                rw [← hall]; exact hin
theorem allOut_two {evs : List Ev} (p : Pat) (h : (allOut p (nodeOut p.node evs (p.node.denP evs))).2 = 0) :
    (∀ q ∈ (allOut p (nodeOut p.node evs (p.node.denP evs))).1, isP p q = true) ∧ ∀ q, From evs q → isP p q = true → q ∈ (allOut p (nodeOut p.node evs (p.node.denP evs))).1 := by
  rw [nodeOut_same] at h ⊢
  unfold allOut at h ⊢
  split at h
  · rename_i hp
    rw [if_pos hp]
    split at h
    · rename_i ho
      rw [if_pos ho]
      unfold nodeOut at ho ⊢
      split at ho
      · rename_i g1
        rw [if_pos g1]
        split at ho
        · rename_i g2
          rw [if_pos g2]
          split at ho
          · cases ho
          · rename_i g3
            rw [if_neg g3]
            split at ho
            · cases ho
            · rename_i g4
              rw [if_neg g4]
              obtain ⟨hv, hd⟩ := evsBad_no (by simpa using g4)
              rw [(Nd.ref_den hd p.node).1] at ho ⊢
              have hfine : p.node.fine := ⟨shape_err g1, g2⟩
              cases hl : p.node.den evs with
              | none => rw [hl] at ho; cases ho
              | some l =>
                have ht := Nd.tells hd (by omega) hv p.node hfine l hl
                have hpart := ((Nd.kid_ok hd (by omega) hv p.node hfine).part l hl).2
                have key : ∀ q, partErr q = 0 → isP p q = (p.node.fits q && matchB p q) := fun q hq => by
                  rw [isP_same, isB, Nd.Fits, hp, g1, g2, hq, Bool.and_assoc, matchB]; rfl
                show (∀ q ∈ l.filter (matchB p), isP p q = true) ∧ ∀ q, From evs q → isP p q = true → q ∈ l.filter (matchB p)
                refine ⟨fun q hq => ?_, fun q hf hi => ?_⟩
                · obtain ⟨k1, k2⟩ := List.mem_filter.1 hq
                  have hpq := hpart q k1
                  rw [key q hpq.err, (ht q hpq.err hpq.of).1 k1, k2]; rfl
                · have hq : partErr q = 0 := by
                    rw [isP_same, isB, Nd.Fits] at hi
                    simp only [Bool.and_eq_true, decide_eq_true_eq] at hi
                    exact hi.1.1.2.1.2
                  rw [key q hq, Bool.and_eq_true] at hi
                  exact List.mem_filter.2 ⟨(ht q hq hf).2 hi.1, hi.2⟩
        · rename_i g2; exact absurd ho g2
      · rename_i g1; exact absurd ho g1
    · rename_i ho; exact absurd h ho
  · rename_i hp; exact absurd h hp
theorem same25_spec (x y : List Bd) (hx : okL x) : PCalls Tryz.prog 25 [.agg (encP x), cap (encP y)] (fun v => v = .c (.bool (samePart x y))) := by
 refine PCalls.intro Tryz.call25 Tryz.func25 rfl Tryz.ntmps25 Tryz.results25 (by simp) ?_
 have q1q := J2 @encP.eq_1 @cap.eq_1
 refine AW.sr q1q ?_
 refine AW.seq_k fun K2 h2 => ?_
 refine AW.reg0 ?_
 iterate 2 refine S.one q1q ?_
 (refine S.g rfl rfl fun Y Z => ?_; simp only [zz, simprocAttr, -Int.reduceNatCast', -Int.reduceToNat, q1q]; refine PCalls.eqto (rsame_part _ _ hx.len hx.ev) ?_ <;> (refine Z _ _ ?_; clear Z Y))
 all_goals refine S.one q1q ?_
 all_goals (refine S.nil ?_; simp only [ze, simprocAttr, q1q]; apply_assumption)
 refine AW.ret ?_
 all_goals simp only [zs, simprocAttr]
 all_goals ((try and_intros) <;> first | rfl | assumption | (rfl))
def evB (x y : Ev) : Bool := (x.src == y.src && x.seq == y.seq) && samePart [⟨⟨#[118]⟩, x⟩] [⟨⟨#[118]⟩, y⟩]
theorem evB_iff {x y : Ev} : evB x y = true ↔ x = y := by
 rw [evB, Bool.and_eq_true, samePart_iff]
 constructor
 ·intro h
  have := h.2
  injection this with h1 _
  injection h1
 ·rintro rfl
  simp
theorem evB_spec (x : Ev) (b : Bd) (hx : x.attrs.length < 4611686018427387904) : PCalls Tryz.prog 22 [.agg (encEv x), cap (encBd b)] (fun v => v = .c (.bool (evB x b.ev))) := by
 have hs := rsame_part [⟨⟨#[118]⟩, x⟩] [⟨⟨#[118]⟩, b.ev⟩] (by simp) (fun c hc => by rw [List.mem_singleton.1 hc]; exact hx)
 rw [show allEq eqBd [⟨⟨#[118]⟩, x⟩] [⟨⟨#[118]⟩, b.ev⟩] = samePart [⟨⟨#[118]⟩, x⟩] [⟨⟨#[118]⟩, b.ev⟩] from rfl] at hs
 refine PCalls.intro Tryz.call22 Tryz.func22 rfl Tryz.ntmps22 Tryz.results22 (by simp) ?_
 rw [evB]
 generalize samePart [⟨⟨#[118]⟩, x⟩] [⟨⟨#[118]⟩, b.ev⟩] = r at hs ⊢
 simp only [List.map, encBd] at hs
 refine AW.sr (J3 @encEv.eq_1 @encBd.eq_1 @cap.eq_1) ?_
 refine AW.seq_j (fun s' σ' => σ' = Hp.empty ∧ s'.t 3 = .c (.bool ((x.src == b.ev.src && x.seq == b.ev.seq) && r))) ?_ ?_
 ·cases h1 : (x.src == b.ev.src && x.seq == b.ev.seq)
  ·skip
   refine AW.region (T := { eqk := eqTab }) (eqTab_ok) rfl ?_
   iterate 5 refine S.one (J4 @encEv.eq_1 @encBd.eq_1 @cap.eq_1 h1) ?_
   (refine S.sp (J12 @eqk45 @fitsAll.eq_1 @fitsAll.eq_2 @fitsAll.eq_3 @SK.fits.eq_1 @SK.fits.eq_2 @SK.fits.eq_3 @SK.fits.eq_4 @cellsEq.eq_1 @cellsEq.eq_2 @cellsEq.eq_3 (J8 @cellEq.eq_1 @cellEq.eq_2 @cellEq.eq_3 @cellEq.eq_4 @encEv.eq_1 @encBd.eq_1 @cap.eq_1 h1)) fun b a9 => ?_; cases b <;> (try exact nope a9))
   all_goals iterate 10 ((first | refine S.g rfl rfl fun Y Z => ?_ | refine S.y rfl rfl rfl rfl fun Y Z => ?_ | refine S.x rfl rfl rfl rfl fun Y Z => ?_ | refine S.u rfl rfl rfl rfl fun Y Z => ?_); simp only [zb, simprocAttr, -Int.reduceNatCast', -Int.reduceToNat, encEv, encBd, cap, h1, tt]; refine Z _ _ ?_; clear Z Y)
   all_goals have q1q := J4 @encEv.eq_1 @encBd.eq_1 @cap.eq_1 h1
   all_goals (first | (refine S.y rfl rfl rfl rfl fun Y Z => ?_; simp only [zz, simprocAttr, -Int.reduceNatCast', -Int.reduceToNat, q1q]; refine PCalls.eqto hs ?_ <;> (refine Z _ _ ?_; clear Z Y)) | ((first | refine S.x rfl rfl rfl rfl fun Y Z => ?_ | refine S.u rfl rfl rfl rfl fun Y Z => ?_); simp only [ze, simprocAttr, -Int.reduceNatCast', -Int.reduceToNat]; refine Z _ _ ?_; clear Z Y))
   all_goals iterate 2 refine S.one q1q ?_
   all_goals refine S.nil ?_
   all_goals simp only [ze, simprocAttr, q1q]
   all_goals simp_all
  ·skip
   refine AW.region (T := { eqk := eqTab }) (eqTab_ok) rfl ?_
   iterate 5 refine S.one (J4 @encEv.eq_1 @encBd.eq_1 @cap.eq_1 h1) ?_
   (refine S.sp (J12 @eqk45 @fitsAll.eq_1 @fitsAll.eq_2 @fitsAll.eq_3 @SK.fits.eq_1 @SK.fits.eq_2 @SK.fits.eq_3 @SK.fits.eq_4 @cellsEq.eq_1 @cellsEq.eq_2 @cellsEq.eq_3 (J8 @cellEq.eq_1 @cellEq.eq_2 @cellEq.eq_3 @cellEq.eq_4 @encEv.eq_1 @encBd.eq_1 @cap.eq_1 h1)) fun b a9 => ?_; cases b <;> (try exact nope a9))
   all_goals iterate 10 ((first | refine S.g rfl rfl fun Y Z => ?_ | refine S.y rfl rfl rfl rfl fun Y Z => ?_ | refine S.x rfl rfl rfl rfl fun Y Z => ?_ | refine S.u rfl rfl rfl rfl fun Y Z => ?_); simp only [zb, simprocAttr, -Int.reduceNatCast', -Int.reduceToNat, encEv, encBd, cap, h1, tt]; refine Z _ _ ?_; clear Z Y)
   all_goals have q2q := J4 @encEv.eq_1 @encBd.eq_1 @cap.eq_1 h1
   all_goals (first | (refine S.y rfl rfl rfl rfl fun Y Z => ?_; simp only [zz, simprocAttr, -Int.reduceNatCast', -Int.reduceToNat, q2q]; refine PCalls.eqto hs ?_ <;> (refine Z _ _ ?_; clear Z Y)) | ((first | refine S.x rfl rfl rfl rfl fun Y Z => ?_ | refine S.u rfl rfl rfl rfl fun Y Z => ?_); simp only [ze, simprocAttr, -Int.reduceNatCast', -Int.reduceToNat]; refine Z _ _ ?_; clear Z Y))
   all_goals iterate 2 refine S.one q2q ?_
   all_goals refine S.nil ?_
   all_goals simp only [ze, simprocAttr, q2q]
   all_goals simp_all
 rintro s σ ⟨rfl, e3⟩
 refine AW.ret ?_
 all_goals simp only [zs, simprocAttr, e3]
 all_goals ((try and_intros) <;> first | rfl | assumption | (rfl))
theorem denTwo_law (p : Pat) (evs : List Ev) (q : List Bd) (hp : okPat p) (hw : inI64 p.within) (hel : evs.length < 4611686018427387904) (heo : ∀ e ∈ evs, okE e) (hq : okP q) (hql : q.length < 1048576) (hqt : ∀ b ∈ q, inI64 b.ev.time) :
  PCalls Tryz.prog 5 [.agg (encPat p), .sl (evs.map encEv), .agg (encP q)] (fun v => v = .c (.bool true)) := by
 have hqe : lenB q := fun b hb => (hq b hb).ev.len
 have hE := (encNd_eq p.node).symm
 have hall := All_P p hp evs hel heo
 have htwo := allOut_two (evs := evs) p
 generalize allOut p (nodeOut p.node evs (p.node.denP evs)) = o at hall htwo
 obtain ⟨la, e⟩ := o
 refine ACalls.bare (R := fun v _ => v = .c (.bool true)) (ACalls.intro Tryz.call5 Tryz.func5 rfl Tryz.ntmps5 Tryz.results5 (by simp) ?_) fun _ _ h => h
 refine AW.sr (J2 @encPat.eq_1 @encP.eq_1) ?_
 refine AW.seq_j (fun s' σ' => σ' = Hp.empty ∧ s'.t 1 = .sl (evs.map encEv) ∧ s'.t 3 = .lp 3 0 ∧ s'.l 3 = some (encPat p) ∧ s'.t 5 = .lp 5 0 ∧ s'.l 5 = some (encP q)) ?_ ?_
 ·refine AW.seq_j (fun s' σ' => σ' = Hp.empty ∧ s'.t 1 = .sl (evs.map encEv) ∧ s'.t 3 = .lp 3 0 ∧ s'.l 3 = some (encPat p) ∧ s'.t 5 = .lp 5 0 ∧ s'.l 5 = some (encP q) ∧ s'.t 20 = .c (.bool (!fitN p.node))) ?_ ?_
  ·skip
   refine AW.reg0 ?_
   iterate 2 refine S.one (J3 @encPat.eq_1 hE @nd) ?_
   (refine S.g rfl rfl fun Y Z => ?_; simp only [zz, simprocAttr, -Int.reduceNatCast', -Int.reduceToNat, encPat, hE, nd]; refine PCalls.eqto (fit_spec p.node hp.small) ?_; refine S.bool fun b a15 => ?_; cases b <;> (try exact nope a15) <;> (refine Z _ _ ?_; clear Z Y))
   all_goals iterate 2 refine S.one (J3 @encPat.eq_1 hE @nd) ?_
   all_goals (first | (refine S.y rfl rfl rfl rfl fun Y Z => ?_; simp only [zz, simprocAttr, -Int.reduceNatCast', -Int.reduceToNat, encPat, hE, nd]; refine PCalls.eqto live_spec ?_ <;> (refine Z _ _ ?_; clear Z Y)) | ((first | refine S.x rfl rfl rfl rfl fun Y Z => ?_ | refine S.u rfl rfl rfl rfl fun Y Z => ?_); simp only [ze, simprocAttr, -Int.reduceNatCast', -Int.reduceToNat]; refine Z _ _ ?_; clear Z Y))
   all_goals iterate 2 refine S.one (J3 @encPat.eq_1 hE @nd) ?_
   all_goals refine S.nil ?_
   all_goals simp only [ze, simprocAttr, encPat, hE, nd]
   all_goals simp_all [encPat, encP]
  rintro s σ ⟨rfl, e1, e3, l3, e5, l5, e20⟩
  refine AW.cond (b := !fitN p.node) e20 (fun hb => ?_) (fun hb => ?_)
  ·refine AW.seq_k fun K2 h2 => ?_
   refine AW.reg0 ?_
   (refine S.g rfl rfl fun Y Z => ?_; simp only [zz, simprocAttr, -Int.reduceNatCast', -Int.reduceToNat]; refine PCalls.eqto live_spec ?_ <;> (refine Z _ _ ?_; clear Z Y))
   all_goals refine S.one trivial ?_
   all_goals (refine S.nil ?_; simp only [ze, simprocAttr]; apply_assumption)
   refine AW.ret ?_
   all_goals simp only [zs, simprocAttr]
   all_goals ((try and_intros) <;> first | rfl | assumption | (rfl))
  ·refine AW.skip ?_
   simp only [zs, simprocAttr, e1, e3, l3, e5, l5]
   all_goals ((try and_intros) <;> first | rfl | assumption | (rfl))
 rintro s σ ⟨rfl, e1, e3, l3, e5, l5⟩
 have l3' := l3
 rw [encPat] at l3'
 rw [encPat] at hall
 refine AW.seq_k fun K3 h3 => ?_
 all_goals refine AW.reg0 ?_
 all_goals iterate 2 refine S.one (J5 e1 e3 l3' hE @nd) ?_
 all_goals (refine S.g rfl rfl fun Y Z => ?_; simp only [zz, simprocAttr, -Int.reduceNatCast', -Int.reduceToNat, e1, e3, l3', hE, nd]; (refine ACalls.to hall ?_; rintro _ σ1 ⟨u1, rfl, hown1, hok1, hlen1⟩) <;> (refine Z _ _ ?_; clear Z Y))
 all_goals iterate 5 refine S.one (J5 e1 e3 l3' hE @nd) ?_
 all_goals (refine S.nil ?_; simp only [ze, simprocAttr, e1, e3, l3', hE, nd]; apply_assumption)
 have hlen1 : la.length ≤ 4096 := hlen1
 have hok1 : ∀ p ∈ la, okQ p := hok1
 refine AW.gen (fun s' => s'.t 1 = .sl (evs.map encEv) ∧ s'.t 3 = .lp 3 0 ∧ s'.l 3 = some (encPat p) ∧ s'.t 5 = .lp 5 0 ∧ s'.l 5 = some (encP q) ∧ s'.t 7 = u1 ∧ s'.t 8 = .c (.int .i64 e)) ?_ ?_
 ·simp only [zs, simprocAttr, e1, e3, l3, e5, l5]
  all_goals ((try and_intros) <;> first | rfl | assumption | (rfl))
 rintro s ⟨e1, e3, l3, e5, l5, e7, e8⟩
 refine AW.heldP (i := 7) (by rw [e7]; exact hown1) fun s4 f7 kt _ kl => ?_
 have e1 := kt 1 _ e1 (fun _ _ => rfl)
 have e3 := kt 3 _ e3 (fun _ _ => rfl)
 have e5 := kt 5 _ e5 (fun _ _ => rfl)
 have e8 := kt 8 _ e8 (fun _ _ => rfl)
 have l3 := kl 3 _ l3 (encPat_fix p)
 have l5 := kl 5 _ l5 (fun k es => rfl)
 refine AW.seq_j (fun s' σ' => σ' = Hp.empty ∧ s'.t 1 = .sl (evs.map encEv) ∧ s'.t 3 = .lp 3 0 ∧ s'.l 3 = some (encPat p) ∧ s'.t 5 = .lp 5 0 ∧ s'.l 5 = some (encP q) ∧ s'.t 7 = .sl (la.map encP) ∧ e = 0) ?_ ?_
 ·refine AW.sr e8 ?_
  refine AW.cond (b := e != 0) (by simp [ev]) (fun hb => ?_) (fun hb => ?_)
  ·refine AW.sr trivial ?_
   refine AW.ret ?_
   simp only [zs, simprocAttr]
   all_goals ((try and_intros) <;> first | rfl | assumption | (rfl))
  ·refine AW.skip ?_
   simp only [zs, simprocAttr, e1, e3, l3, e5, l5, f7]
   all_goals ((try and_intros) <;> first | rfl | assumption | (simpa using hb))
 rintro s σ ⟨rfl, e1, e3, l3, e5, l5, e7, he⟩
 obtain ⟨hs1, hs2⟩ := htwo he
 have l3' := l3
 rw [encPat] at l3'
 refine AW.seq_j (fun s' σ' => σ' = Hp.empty ∧ s'.t 1 = .sl (evs.map encEv) ∧ s'.t 3 = .lp 3 0 ∧ s'.l 3 = some (encPat p) ∧ s'.t 5 = .lp 5 0 ∧ s'.l 5 = some (encP q) ∧ s'.t 7 = .sl (la.map encP)) ?_ ?_
 ·refine AW.sr (J2 e7 @List.length_map.{0,0}) ?_
  refine AW.block ?_   -- 0
  refine AW.loop (fun m s σ => σ = Hp.empty ∧ ∃ i : Nat, m + i = la.length ∧ s.t 1 = .sl (evs.map encEv) ∧ s.t 3 = .lp 3 0 ∧ s.l 3 = some (encPat p) ∧ s.t 5 = .lp 5 0 ∧ s.l 5 = some (encP q) ∧ s.t 7 = .sl (la.map encP) ∧ s.t 30 = .sl (la.map encP) ∧ s.t 31 = .c (.int .i64 (la.length : Nat)) ∧ s.t 32 = .c (.int .i64 (i : Nat))) la.length ?_ ?_
  ·refine ⟨rfl, 0, by simp, ?_⟩
   simp only [zs, simprocAttr]
   all_goals ((try and_intros) <;> first | rfl | assumption | (rfl))
  rintro m s σ ⟨rfl, i, hm, e1, e3, l3, e5, l5, e7, e30, e31, e32⟩
  all_goals refine AW.sr (J2 e31 e32) ?_
  refine AW.seq_k fun K8 h8 => ?_
  refine AW.cond (b := decide (i < la.length)) (by simp [ev]) (fun hc => ?_) (fun hc => ?_)
  ·have hi := of_decide_eq_true hc
   obtain ⟨x, hx, hxm, hgx, _⟩ := at_get encP hi
   have hwi := wadd1 (a := i) (by omega)
   have hxo := hok1 x hxm
   have hxl := hxo.len
   have his := Is_spec p x hp hxo.ok hxo.toL.ev (by omega) hxo.time hw
   rw [hs1 x hxm] at his
   rw [encPat] at his
   have l3' := l3
   rw [encPat] at l3'
   refine AW.skip ?_
   simp only [zs, simprocAttr]
   all_goals apply_assumption
   refine AW.seq_k fun K9 h9 => ?_
   refine AW.block ?_   -- 1
   refine AW.sr (J6 e30 e32 hi hgx @encP.eq_1 @List.length_map.{0,0}) ?_
   refine AW.seq_k fun K11 h11 => ?_
   refine AW.reg0 ?_
   iterate 2 refine S.one (J3 e3 l3' @encP.eq_1) ?_
   (refine S.g rfl rfl fun Y Z => ?_; simp only [zz, simprocAttr, -Int.reduceNatCast', -Int.reduceToNat, e3, l3', encP]; refine PCalls.eqto his ?_ <;> (refine Z _ _ ?_; clear Z Y))
   all_goals refine S.one (J3 e3 l3' @encP.eq_1) ?_
   all_goals (refine S.nil ?_; simp only [ze, simprocAttr, e3, l3', encP]; apply_assumption)
   refine AW.cond (b := false) (by simp [ev]) (fun hc2 => by cases hc2) (fun hc2 => ?_)
   refine AW.skip ?_
   all_goals simp only [zs, simprocAttr]
   all_goals apply_assumption
   all_goals refine AW.reg0 (S.rn (J2 e32 hwi) ?_)
   all_goals simp only [ze, simprocAttr, e32, hwi]
   refine ⟨m - 1, by omega, i + 1, by omega, ?_⟩
   all_goals simp only [zs, simprocAttr, e1, e3, l3, e5, l5, e7, e30, e31]
   all_goals ((try and_intros) <;> first | rfl | assumption | (rfl))
  ·refine AW.exit ?_
   simp only [zs, simprocAttr, e1, e3, l3, e5, l5, e7]
   all_goals ((try and_intros) <;> first | rfl | assumption | (rfl))
 rintro s σ ⟨rfl, e1, e3, l3, e5, l5, e7⟩
 refine AW.hushBox l5 (by simp [encP]) ?_
 have f1 : (s.bx 5 (encP q)).t 1 = .sl (evs.map encEv) := by simp [e1, bxV]
 have f3 : (s.bx 5 (encP q)).t 3 = .lp 3 0 := by simp [e3, bxV]
 have f5 : (s.bx 5 (encP q)).t 5 = cap (encP q) := by simp [e5, bxV, cap]
 have f7 : (s.bx 5 (encP q)).t 7 = .sl (la.map encP) := by simp [e7, bxV]
 have g3 : (s.bx 5 (encP q)).l 3 = some (encPat p) := by simp [l3]
 generalize s.bx 5 (encP q) = s at *
 refine AW.seq_j (fun s' σ' => σ' = Hp.empty ∧ s'.t 3 = .lp 3 0 ∧ s'.l 3 = some (encPat p) ∧ s'.t 5 = cap (encP q) ∧ s'.t 7 = .sl (la.map encP) ∧ From evs q) ?_ ?_
 ·refine AW.sr (J4 f5 @encP.eq_1 @cap.eq_1 @List.length_map.{0,0}) ?_
  refine AW.block ?_   -- 2
  refine AW.loop (fun m s σ => σ = Hp.empty ∧ ∃ i : Nat, m + i = q.length ∧ s.t 1 = .sl (evs.map encEv) ∧ s.t 3 = .lp 3 0 ∧ s.l 3 = some (encPat p) ∧ s.t 5 = cap (encP q) ∧ s.t 7 = .sl (la.map encP) ∧ s.t 42 = .sl (q.map encBd) ∧ s.t 43 = .c (.int .i64 (q.length : Nat)) ∧ s.t 44 = .c (.int .i64 (i : Nat)) ∧ From evs (q.take i)) q.length ?_ ?_
  ·refine ⟨rfl, 0, by simp, ?_⟩
   simp only [zs, simprocAttr, f1, f3, g3, f5, f7]
   all_goals ((try and_intros) <;> first | rfl | assumption | (first | rfl | (intro b hb; simp at hb)))
  rintro m s σ ⟨rfl, i, hm, e1, e3, l3, e5, e7, e42, e43, e44, hfr⟩
  all_goals refine AW.sr (J2 e43 e44) ?_
  refine AW.seq_k fun K14 h14 => ?_
  refine AW.cond (b := decide (i < q.length)) (by simp [ev]) (fun hc => ?_) (fun hc => ?_)
  ·have hi := of_decide_eq_true hc
   obtain ⟨b, hb, hbm, hgb, _⟩ := at_get encBd hi
   have hwi := wadd1 (a := i) (by omega)
   have hany := any21_spec (p := fun x => evB x b.ev) (c := cap (encBd b)) (g := 22) evs hel (cap_wk _) (cap_ok _) (fun x hx => evB_spec x b (heo x hx).len)
   have hstep : evs.any (fun x => evB x b.ev) = true → From evs (q.take (i + 1)) := fun h c hc => by
    rw [List.take_add_one, hb] at hc
    rcases List.mem_append.1 hc with hc | hc
    ·exact hfr c hc
    ·have : c = b := by simpa using hc
     subst this
     obtain ⟨x, hx, he⟩ := List.any_eq_true.1 h
     rw [← evB_iff.1 he]; exact hx
   generalize evs.any (fun x => evB x b.ev) = r at hany hstep
   refine AW.skip ?_
   simp only [zs, simprocAttr]
   all_goals apply_assumption
   refine AW.seq_k fun K15 h15 => ?_
   refine AW.block ?_   -- 3
   refine AW.sr (J6 e42 e44 hi hgb @encBd.eq_1 @List.length_map.{0,0}) ?_
   refine AW.gen (fun s' => s'.t 1 = .sl (evs.map encEv) ∧ s'.t 3 = .lp 3 0 ∧ s'.l 3 = some (encPat p) ∧ s'.t 5 = cap (encP q) ∧ s'.t 7 = .sl (la.map encP) ∧ s'.t 42 = .sl (q.map encBd) ∧ s'.t 43 = .c (.int .i64 (q.length : Nat)) ∧ s'.t 44 = .c (.int .i64 (i : Nat)) ∧ s'.t 12 = .lp 12 0 ∧ s'.l 12 = some (encBd b)) ?_ ?_
   ·simp only [zs, simprocAttr, e1, e3, l3, e5, e7, e42, e43, e44, cap]
    all_goals ((try and_intros) <;> first | rfl | assumption | (rfl))
   rintro s ⟨e1, e3, l3, e5, e7, e42, e43, e44, e12, l12⟩
   refine AW.hushBox l12 (by simp [encBd]) ?_
   have f1 : (s.bx 12 (encBd b)).t 1 = .sl (evs.map encEv) := by simp [e1, bxV]
   have f3 : (s.bx 12 (encBd b)).t 3 = .lp 3 0 := by simp [e3, bxV]
   have f5 : (s.bx 12 (encBd b)).t 5 = cap (encP q) := by simp [e5, bxV, cap]
   have f7 : (s.bx 12 (encBd b)).t 7 = .sl (la.map encP) := by simp [e7, bxV]
   have f42 : (s.bx 12 (encBd b)).t 42 = .sl (q.map encBd) := by simp [e42, bxV]
   have f43 : (s.bx 12 (encBd b)).t 43 = .c (.int .i64 (q.length : Nat)) := by simp [e43, bxV]
   have f44 : (s.bx 12 (encBd b)).t 44 = .c (.int .i64 (i : Nat)) := by simp [e44, bxV]
   have f12 : (s.bx 12 (encBd b)).t 12 = cap (encBd b) := by simp [e12, bxV, cap]
   have g3 : (s.bx 12 (encBd b)).l 3 = some (encPat p) := by simp [l3]
   generalize s.bx 12 (encBd b) = s at *
   refine AW.seq_k fun K17 h17 => ?_
   all_goals refine AW.reg0 ?_
   all_goals iterate 2 refine S.one (J3 f1 f12 @cap_ok) ?_
   all_goals (refine S.g rfl rfl fun Y Z => ?_; simp only [zz, simprocAttr, -Int.reduceNatCast', -Int.reduceToNat, f1, f12, cap_ok]; refine PCalls.eqto hany ?_ <;> (refine Z _ _ ?_; clear Z Y))
   all_goals refine S.one (J3 f1 f12 @cap_ok) ?_
   all_goals (refine S.nil ?_; simp only [ze, simprocAttr, f1, f12, cap_ok]; apply_assumption)
   refine AW.cond (b := !r) (by simp [ev]) (fun hc2 => ?_) (fun hc2 => ?_)
   ·refine AW.sr trivial ?_
    refine AW.ret ?_
    simp only [zs, simprocAttr]
    all_goals ((try and_intros) <;> first | rfl | assumption | (rfl))
   ·have hr : r = true := by simpa using hc2
    refine AW.skip ?_
    simp only [zs, simprocAttr]
    all_goals apply_assumption
    refine AW.reg0 (S.rn (J2 f44 hwi) ?_)
    simp only [ze, simprocAttr, f44, hwi]
    refine ⟨m - 1, by omega, i + 1, by omega, ?_⟩
    simp only [zs, simprocAttr, f1, f3, g3, f5, f7, f42, f43]
    all_goals ((try and_intros) <;> first | rfl | assumption | (exact hstep hr))
  ·have hi := of_decide_eq_false hc
   rw [List.take_of_length_le (by omega)] at hfr
   refine AW.exit ?_
   simp only [zs, simprocAttr, e3, l3, e5, e7]
   all_goals ((try and_intros) <;> first | rfl | assumption | (exact hfr))
 rintro s σ ⟨rfl, e3, l3, e5, e7, hfr⟩
 have l3' := l3
 rw [encPat] at l3'
 have his := Is_spec p q hp hq hqe hql hqt hw
 rw [encPat] at his
 have hany := any24_spec (p := fun x => samePart x q) (c := cap (encP q)) (g := 25) la (by omega) (cap_wk _) (cap_ok _) (fun x hx => same25_spec x q (hok1 x hx).toL)
 have hfin : isP p q = true → la.any (fun x => samePart x q) = true := fun h => List.any_eq_true.2 ⟨q, hs2 q hfr h, samePart_iff.2 rfl⟩
 generalize la.any (fun x => samePart x q) = r at hany hfin
 refine AW.seq_j (fun s' σ' => s'.t 6 = .c (.bool true)) ?_ ?_
 ·cases hi : isP p q
  ·rw [hi] at his
   refine AW.reg0 ?_
   iterate 2 (refine S.g rfl rfl fun Y Z => ?_; simp only [zz, simprocAttr, -Int.reduceNatCast', -Int.reduceToNat, tt, e3, l3', e5, e7, cap, encP, okV, wk, wk1]; refine Z _ _ ?_; clear Z Y)
   all_goals (refine S.g rfl rfl fun Y Z => ?_; simp only [zz, simprocAttr, -Int.reduceNatCast', -Int.reduceToNat, e3, l3', e5, e7, cap, encP, okV, wk, wk1]; refine PCalls.eqto his ?_; refine S.bool fun b a55 => ?_; cases b <;> (try exact nope a55) <;> (refine Z _ _ ?_; clear Z Y))
   all_goals iterate 4 ((first | refine S.g rfl rfl fun Y Z => ?_ | refine S.y rfl rfl rfl rfl fun Y Z => ?_ | refine S.x rfl rfl rfl rfl fun Y Z => ?_ | refine S.u rfl rfl rfl rfl fun Y Z => ?_); simp only [zz, simprocAttr, -Int.reduceNatCast', -Int.reduceToNat, e3, l3', e5, e7, cap, encP, okV, wk, wk1]; refine Z _ _ ?_; clear Z Y)
   all_goals (first | (refine S.y rfl rfl rfl rfl fun Y Z => ?_; simp only [zz, simprocAttr, -Int.reduceNatCast', -Int.reduceToNat, e3, l3', e5, e7, cap, encP, okV, wk, wk1]; refine PCalls.eqto hany ?_ <;> (refine Z _ _ ?_; clear Z Y)) | ((first | refine S.x rfl rfl rfl rfl fun Y Z => ?_ | refine S.u rfl rfl rfl rfl fun Y Z => ?_); simp only [ze, simprocAttr, -Int.reduceNatCast', -Int.reduceToNat]; refine Z _ _ ?_; clear Z Y))
   all_goals iterate 2 (refine S.g rfl rfl fun Y Z => ?_; simp only [zz, simprocAttr, -Int.reduceNatCast', -Int.reduceToNat, e3, l3', e5, e7, cap, encP, okV, wk, wk1]; refine Z _ _ ?_; clear Z Y)
   all_goals refine S.nil ?_
   all_goals simp only [ze, simprocAttr, e3, l3', e5, e7, cap, encP, okV, wk, wk1]
   all_goals simp_all
  ·rw [hi] at his
   have hr := hfin hi
   subst hr
   refine AW.reg0 ?_
   iterate 2 (refine S.g rfl rfl fun Y Z => ?_; simp only [zz, simprocAttr, -Int.reduceNatCast', -Int.reduceToNat, tt, e3, l3', e5, e7, cap, encP, okV, wk, wk1]; refine Z _ _ ?_; clear Z Y)
   all_goals (refine S.g rfl rfl fun Y Z => ?_; simp only [zz, simprocAttr, -Int.reduceNatCast', -Int.reduceToNat, e3, l3', e5, e7, cap, encP, okV, wk, wk1]; refine PCalls.eqto his ?_; refine S.bool fun b a55 => ?_; cases b <;> (try exact nope a55) <;> (refine Z _ _ ?_; clear Z Y))
   all_goals iterate 4 ((first | refine S.g rfl rfl fun Y Z => ?_ | refine S.y rfl rfl rfl rfl fun Y Z => ?_ | refine S.x rfl rfl rfl rfl fun Y Z => ?_ | refine S.u rfl rfl rfl rfl fun Y Z => ?_); simp only [zz, simprocAttr, -Int.reduceNatCast', -Int.reduceToNat, e3, l3', e5, e7, cap, encP, okV, wk, wk1]; refine Z _ _ ?_; clear Z Y)
   all_goals (first | (refine S.y rfl rfl rfl rfl fun Y Z => ?_; simp only [zz, simprocAttr, -Int.reduceNatCast', -Int.reduceToNat, e3, l3', e5, e7, cap, encP, okV, wk, wk1]; refine PCalls.eqto hany ?_ <;> (refine Z _ _ ?_; clear Z Y)) | ((first | refine S.x rfl rfl rfl rfl fun Y Z => ?_ | refine S.u rfl rfl rfl rfl fun Y Z => ?_); simp only [ze, simprocAttr, -Int.reduceNatCast', -Int.reduceToNat]; refine Z _ _ ?_; clear Z Y))
   all_goals iterate 2 (refine S.g rfl rfl fun Y Z => ?_; simp only [zz, simprocAttr, -Int.reduceNatCast', -Int.reduceToNat, e3, l3', e5, e7, cap, encP, okV, wk, wk1]; refine Z _ _ ?_; clear Z Y)
   all_goals refine S.nil ?_
   all_goals simp only [ze, simprocAttr, e3, l3', e5, e7, cap, encP, okV, wk, wk1]
   all_goals simp_all
 rintro s4 σ4 e6
 refine AW.ret ?_
 all_goals simp only [zs, simprocAttr, e6]
 all_goals ((try and_intros) <;> first | rfl | assumption | (rfl))
end Go.Abs.M
namespace Go.Abs.M
set_option maxHeartbeats 4000000
open Go Go.Abs Go.Proofs
set_option maxRecDepth 20000
theorem co2 : Tryz.prog.cellsOf 2 = 1 := by kernel_rfl
theorem co3 : Tryz.prog.cellsOf 3 = 1 := by kernel_rfl
theorem co9 : Tryz.prog.cellsOf 9 = 1 := by kernel_rfl
theorem co22 : Tryz.prog.cellsOf 22 = 1 := by kernel_rfl
theorem co23 : Tryz.prog.cellsOf 23 = 1 := by kernel_rfl
theorem co25 : Tryz.prog.cellsOf 25 = 5 := by kernel_rfl
theorem co37 : Tryz.prog.cellsOf 37 = 8 := by kernel_rfl
theorem co38 : Tryz.prog.cellsOf 38 = 1 := by kernel_rfl
theorem co40 : Tryz.prog.cellsOf 40 = 1 := by kernel_rfl
theorem co45 : Tryz.prog.cellsOf 45 = 2 := by kernel_rfl
theorem co46 : Tryz.prog.cellsOf 46 = 1 := by kernel_rfl
theorem co48 : Tryz.prog.cellsOf 48 = 5 := by kernel_rfl
theorem co50 : Tryz.prog.cellsOf 50 = 6 := by kernel_rfl
theorem co104 : Tryz.prog.cellsOf 104 = 3 := by kernel_rfl
theorem co106 : Tryz.prog.cellsOf 106 = 5 := by kernel_rfl
theorem co108 : Tryz.prog.cellsOf 108 = 11 := by kernel_rfl
theorem co119 : Tryz.prog.cellsOf 119 = 4 := by kernel_rfl
theorem len1 {us : List V} (h : us.length = 1) : ∃ x0, us = [x0] := by
 match us, h with
 | [x0], _ => exact ⟨x0, rfl⟩
theorem len4 {us : List V} (h : us.length = 4) : ∃ x0 x1 x2 x3, us = [x0, x1, x2, x3] := by
 match us, h with
 | [x0, x1, x2, x3], _ => exact ⟨x0, x1, x2, x3, rfl⟩
theorem len5 {us : List V} (h : us.length = 5) : ∃ x0 x1 x2 x3 x4, us = [x0, x1, x2, x3, x4] := by
 match us, h with
 | [x0, x1, x2, x3, x4], _ => exact ⟨x0, x1, x2, x3, x4, rfl⟩
theorem len6 {us : List V} (h : us.length = 6) : ∃ x0 x1 x2 x3 x4 x5, us = [x0, x1, x2, x3, x4, x5] := by
 match us, h with
 | [x0, x1, x2, x3, x4, x5], _ => exact ⟨x0, x1, x2, x3, x4, x5, rfl⟩
theorem len8 {us : List V} (h : us.length = 8) : ∃ x0 x1 x2 x3 x4 x5 x6 x7, us = [x0, x1, x2, x3, x4, x5, x6, x7] := by
 match us, h with
 | [x0, x1, x2, x3, x4, x5, x6, x7], _ => exact ⟨x0, x1, x2, x3, x4, x5, x6, x7, rfl⟩
theorem len11 {us : List V} (h : us.length = 11) : ∃ x0 x1 x2 x3 x4 x5 x6 x7 x8 x9 x10, us = [x0, x1, x2, x3, x4, x5, x6, x7, x8, x9, x10] := by
 match us, h with
 | [x0, x1, x2, x3, x4, x5, x6, x7, x8, x9, x10], _ => exact ⟨x0, x1, x2, x3, x4, x5, x6, x7, x8, x9, x10, rfl⟩
theorem open_val {n : Nat} {x0 x1 x2 : V} (h : Fit Tryz.prog n 104 [x0, x1, x2]) : ∃ v : Val, [x0, x1, x2] = encVal v ∧ v.s.size ≤ reachBytes := by
 obtain ⟨_, m, _, hf⟩ := h.st Tryz.underlying104
 have h0 : Fit Tryz.prog m 3 (([x0, x1, x2].drop 0).take (Tryz.prog.cellsOf 3)) := hf 0 _ rfl
 have h1 : Fit Tryz.prog m 2 (([x0, x1, x2].drop 1).take (Tryz.prog.cellsOf 2)) := hf 1 _ rfl
 have h2 : Fit Tryz.prog m 9 (([x0, x1, x2].drop 2).take (Tryz.prog.cellsOf 9)) := hf 2 _ rfl
 simp only [co3, co2, co9, List.drop_zero, List.take_succ_cons, List.take_zero, List.drop_succ_cons] at h0 h1 h2
 obtain ⟨a, e0, _⟩ := h0.int Tryz.underlying3
 obtain ⟨b, e1, _⟩ := h1.int Tryz.underlying2
 obtain ⟨s, e2, hs⟩ := h2.str Tryz.underlying9
 simp only [List.cons.injEq, and_true] at e0 e1 e2
 exact ⟨⟨a, b, s⟩, by rw [e0, e1, e2]; rfl, hs⟩
def opdFits (o : Opd) : Prop := o.var.size ≤ reachBytes ∧ o.attr.size ≤ reachBytes ∧ o.v.s.size ≤ reachBytes
theorem open_opd {n : Nat} {x0 x1 x2 x3 x4 : V} (h : Fit Tryz.prog n 106 [x0, x1, x2, x3, x4]) : ∃ o : Opd, [x0, x1, x2, x3, x4] = encO o ∧ opdFits o := by
 obtain ⟨_, m, _, hf⟩ := h.st Tryz.underlying106
 have h0 : Fit Tryz.prog m 9 (([x0, x1, x2, x3, x4].drop 0).take (Tryz.prog.cellsOf 9)) := hf 0 _ rfl
 have h1 : Fit Tryz.prog m 9 (([x0, x1, x2, x3, x4].drop 1).take (Tryz.prog.cellsOf 9)) := hf 1 _ rfl
 have h2 : Fit Tryz.prog m 104 (([x0, x1, x2, x3, x4].drop 2).take (Tryz.prog.cellsOf 104)) := hf 2 _ rfl
 simp only [co9, co104, List.drop_zero, List.take_succ_cons, List.take_zero, List.drop_succ_cons] at h0 h1 h2
 obtain ⟨s, e0, hs⟩ := h0.str Tryz.underlying9
 obtain ⟨t, e1, ht⟩ := h1.str Tryz.underlying9
 obtain ⟨v, e2, hv⟩ := open_val h2
 simp only [List.cons.injEq, and_true] at e0 e1
 exact ⟨⟨s, t, v⟩, by rw [e0, e1, e2]; rfl, hs, ht, hv⟩
def cndFits (c : Cnd) : Prop := opdFits c.l ∧ opdFits c.r
theorem open_cnd {n : Nat} {us : List V} (hl : us.length = 11) (h : Fit Tryz.prog n 108 us) : ∃ c : Cnd, us = encC c ∧ cndFits c := by
 obtain ⟨_, m, _, hf⟩ := h.st Tryz.underlying108
 have h0 : Fit Tryz.prog m 106 ((us.drop 0).take (Tryz.prog.cellsOf 106)) := hf 0 _ rfl
 have h1 : Fit Tryz.prog m 3 ((us.drop 5).take (Tryz.prog.cellsOf 3)) := hf 1 _ rfl
 have h2 : Fit Tryz.prog m 106 ((us.drop 6).take (Tryz.prog.cellsOf 106)) := hf 2 _ rfl
 obtain ⟨x0, x1, x2, x3, x4, x5, x6, x7, x8, x9, x10, rfl⟩ := len11 hl
 simp only [co106, co3, List.drop_zero, List.take_succ_cons, List.take_zero, List.drop_succ_cons] at h0 h1 h2
 obtain ⟨a, e0, ha⟩ := open_opd h0
 obtain ⟨r, e1, _⟩ := h1.int Tryz.underlying3
 obtain ⟨b, e2, hb⟩ := open_opd h2
 simp only [List.cons.injEq, and_true] at e1
 refine ⟨⟨a, r, b⟩, ?_, ha, hb⟩
 show [x0, x1, x2, x3, x4] ++ [x5] ++ [x6, x7, x8, x9, x10] = encO a ++ [_] ++ encO b
 rw [e0, e1, e2]
def attrFits (a : Attr) : Prop := a.name.size ≤ reachBytes ∧ a.v.s.size ≤ reachBytes
theorem open_attr {n : Nat} {us : List V} (hl : us.length = 4) (h : Fit Tryz.prog n 119 us) : ∃ a : Attr, us = encAttr a ∧ attrFits a := by
 obtain ⟨_, m, _, hf⟩ := h.st Tryz.underlying119
 have h0 : Fit Tryz.prog m 9 ((us.drop 0).take (Tryz.prog.cellsOf 9)) := hf 0 _ rfl
 have h1 : Fit Tryz.prog m 104 ((us.drop 1).take (Tryz.prog.cellsOf 104)) := hf 1 _ rfl
 obtain ⟨x0, x1, x2, x3, rfl⟩ := len4 hl
 simp only [co9, co104, List.drop_zero, List.take_succ_cons, List.take_zero, List.drop_succ_cons] at h0 h1
 obtain ⟨s, e0, hs⟩ := h0.str Tryz.underlying9
 obtain ⟨v, e1, hv⟩ := open_val h1
 simp only [List.cons.injEq, and_true] at e0
 refine ⟨⟨s, v⟩, ?_, hs, hv⟩
 rw [e0, e1]; rfl
theorem inI64_of {x : Int} (h : (Lit.int .i64 x).wf = true) : inI64 x := by
 simp [Lit.wf, IntKind.min, IntKind.max, IntKind.signed, IntKind.bits] at h
 unfold inI64; omega
structure evFits (e : Ev) : Prop where
  type : e.type.size ≤ reachBytes
  len : e.attrs.length * 48 ≤ reachBytes
  attrs : ∀ a ∈ e.attrs, attrFits a
  time : inI64 e.time
theorem open_ev {n : Nat} {us : List V} (hl : us.length = 5) (h : Fit Tryz.prog n 48 us) : ∃ e : Ev, us = encEv e ∧ evFits e := by
 obtain ⟨_, m, _, hf⟩ := h.st Tryz.underlying48
 have h0 : Fit Tryz.prog m 45 ((us.drop 0).take (Tryz.prog.cellsOf 45)) := hf 0 _ rfl
 have h1 : Fit Tryz.prog m 2 ((us.drop 2).take (Tryz.prog.cellsOf 2)) := hf 1 _ rfl
 have h2 : Fit Tryz.prog m 9 ((us.drop 3).take (Tryz.prog.cellsOf 9)) := hf 2 _ rfl
 have h3 : Fit Tryz.prog m 46 ((us.drop 4).take (Tryz.prog.cellsOf 46)) := hf 3 _ rfl
 obtain ⟨x0, x1, x2, x3, x4, rfl⟩ := len5 hl
 simp only [co45, co2, co9, co46, List.drop_zero, List.take_succ_cons, List.take_zero, List.drop_succ_cons] at h0 h1 h2 h3
 obtain ⟨_, m', _, hg⟩ := h0.st Tryz.underlying45
 have g0 : Fit Tryz.prog m' 3 (([x0, x1].drop 0).take (Tryz.prog.cellsOf 3)) := hg 0 _ rfl
 have g1 : Fit Tryz.prog m' 2 (([x0, x1].drop 1).take (Tryz.prog.cellsOf 2)) := hg 1 _ rfl
 simp only [co3, co2, List.drop_zero, List.take_succ_cons, List.take_zero, List.drop_succ_cons] at g0 g1
 obtain ⟨a, e0, _⟩ := g0.int Tryz.underlying3
 obtain ⟨b, e1, _⟩ := g1.int Tryz.underlying2
 obtain ⟨c, e2, hc⟩ := h1.int Tryz.underlying2
 obtain ⟨s, e3, hs⟩ := h2.str Tryz.underlying9
 obtain ⟨es, e4, hes, k, _, hk⟩ := h3.sl Tryz.underlying46
 simp only [co119] at hk
 obtain ⟨l, rfl, hl⟩ := rows_of (f := encAttr) (p := attrFits) fun x hx => open_attr (hk x hx).1 (hk x hx).2
 simp only [List.cons.injEq, and_true] at e0 e1 e2 e3 e4
 refine ⟨⟨a, b, c, s, l⟩, by rw [e0, e1, e2, e3, e4]; rfl, hs, ?_, hl, inI64_of hc⟩
 rw [List.length_map, by119] at hes; exact hes
theorem evFits.ok {e : Ev} (h : evFits e) : okE e := by
 have hr : reachBytes = 140737488351232 := rfl
 obtain ⟨h1, h2, h3, _⟩ := h
 exact ⟨by omega, by omega, fun a ha => by obtain ⟨h5, h6⟩ := h3 a ha; exact ⟨by omega, by omega⟩⟩
structure bdFits (b : Bd) : Prop where
  var : b.var.size ≤ reachBytes
  ev : evFits b.ev
theorem open_bd {n : Nat} {us : List V} (hl : us.length = 6) (h : Fit Tryz.prog n 50 us) : ∃ b : Bd, us = encBd b ∧ bdFits b := by
 obtain ⟨_, m, _, hf⟩ := h.st Tryz.underlying50
 have h0 : Fit Tryz.prog m 9 ((us.drop 0).take (Tryz.prog.cellsOf 9)) := hf 0 _ rfl
 have h1 : Fit Tryz.prog m 48 ((us.drop 1).take (Tryz.prog.cellsOf 48)) := hf 1 _ rfl
 obtain ⟨x0, x1, x2, x3, x4, x5, rfl⟩ := len6 hl
 simp only [co9, co48, List.drop_zero, List.take_succ_cons, List.take_zero, List.drop_succ_cons] at h0 h1
 obtain ⟨s, e0, hs⟩ := h0.str Tryz.underlying9
 obtain ⟨v, e1, hv⟩ := open_ev rfl h1
 simp only [List.cons.injEq, and_true] at e0
 refine ⟨⟨s, v⟩, ?_, hs, hv⟩
 rw [e0, e1]; rfl
theorem okB_of {b : Bd} (h : bdFits b) : okB b := by
 have hr : reachBytes = 140737488351232 := rfl
 exact ⟨by have := h.var; omega, h.ev.ok⟩
theorem open_part {n : Nat} {us : List V} (hl : us.length = 1) (h : Fit Tryz.prog n 40 us) : ∃ l : List Bd, us = [.sl (l.map encBd)] ∧ (∀ b ∈ l, bdFits b) ∧ l.length * 80 ≤ reachBytes := by
 obtain ⟨_, m, _, hf⟩ := h.st Tryz.underlying40
 have h0 : Fit Tryz.prog m 38 ((us.drop 0).take (Tryz.prog.cellsOf 38)) := hf 0 _ rfl
 obtain ⟨x0, rfl⟩ := len1 hl
 simp only [co38, List.drop_zero, List.take_succ_cons, List.take_zero, List.drop_succ_cons] at h0
 obtain ⟨es, e4, hes, k, _, hk⟩ := h0.sl Tryz.underlying38
 simp only [co50] at hk
 obtain ⟨l, rfl, hl⟩ := rows_of (f := encBd) (p := bdFits) fun x hx => open_bd (hk x hx).1 (hk x hx).2
 refine ⟨l, e4, hl, ?_⟩
 rw [List.length_map, by50] at hes; exact hes
theorem okC_of {c : Cnd} (h : cndFits c) : okC c := by
 have hr : reachBytes = 140737488351232 := rfl
 obtain ⟨⟨h1, h2, h3⟩, h4, h5, h6⟩ := h
 exact ⟨⟨by omega⟩, ⟨by omega⟩⟩
theorem open_conds {n : Nat} {x : V} (h : Fit Tryz.prog n 22 [x]) : ∃ l : List Cnd, x = .sl (l.map encC) ∧ (∀ c ∈ l, okC c) ∧ l.length < 4611686018427387904 := by
 have hr : reachBytes = 140737488351232 := rfl
 obtain ⟨es, e4, hes, k, _, hk⟩ := h.sl Tryz.underlying22
 simp only [co108] at hk
 obtain ⟨l, rfl, hl⟩ := rows_of (f := encC) (p := cndFits) fun x hx => open_cnd (hk x hx).1 (hk x hx).2
 simp only [List.cons.injEq, and_true] at e4
 refine ⟨l, e4, fun c hc => okC_of (hl c hc), ?_⟩
 rw [List.length_map, by108] at hes; omega
theorem open_nd : ∀ (n : Nat) (us : List V), us.length = 5 → Fit Tryz.prog n 25 us → ∃ nd : Nd, us = encNd nd ∧ nd.ok := by
  intro n
  induction n using Nat.strongRecOn with
  | _ n ih =>
    intro us hl h
    have hr : reachBytes = 140737488351232 := rfl
    obtain ⟨_, m, hm, hf⟩ := h.st Tryz.underlying25
    have h0 : Fit Tryz.prog m 3 ((us.drop 0).take (Tryz.prog.cellsOf 3)) := hf 0 _ rfl
    have h1 : Fit Tryz.prog m 9 ((us.drop 1).take (Tryz.prog.cellsOf 9)) := hf 1 _ rfl
    have h2 : Fit Tryz.prog m 9 ((us.drop 2).take (Tryz.prog.cellsOf 9)) := hf 2 _ rfl
    have h3 : Fit Tryz.prog m 22 ((us.drop 3).take (Tryz.prog.cellsOf 22)) := hf 3 _ rfl
    have h4 : Fit Tryz.prog m 23 ((us.drop 4).take (Tryz.prog.cellsOf 23)) := hf 4 _ rfl
    obtain ⟨x0, x1, x2, x3, x4, rfl⟩ := len5 hl
    simp only [co3, co9, co22, co23, List.drop_zero, List.take_succ_cons, List.take_zero, List.drop_succ_cons] at h0 h1 h2 h3 h4
    obtain ⟨a, e0, _⟩ := h0.int Tryz.underlying3
    obtain ⟨s, e1, hs⟩ := h1.str Tryz.underlying9
    obtain ⟨t, e2, ht⟩ := h2.str Tryz.underlying9
    obtain ⟨cs, e3, hcs, hcl⟩ := open_conds h3
    obtain ⟨es, e4, hes, k, hkm, hk⟩ := h4.sl Tryz.underlying23
    simp only [co25] at hk
    obtain ⟨l, rfl, hl⟩ := rows_of (f := encNd) (p := Nd.ok) fun x hx => ih k (by omega) x (hk x hx).1 (hk x hx).2
    simp only [List.cons.injEq, and_true] at e0 e1 e2 e4
    refine ⟨⟨a, s, t, cs, l⟩, by rw [e0, e1, e2, e3, e4, encNd_eq]; rfl, ?_⟩
    rw [Nd.ok_eq]
    refine ⟨⟨by show s.size < _; omega, by show t.size < _; omega, hcl, hcs⟩, fun p hp => ?_⟩
    obtain ⟨x, hx, rfl⟩ := List.mem_map.1 hp
    exact hl x hx
theorem open_pat {n : Nat} {us : List V} (hl : us.length = 8) (h : Fit Tryz.prog n 37 us) : ∃ p : Pat, us = encPat p ∧ p.name.size < 4611686018427387904 ∧ p.node.ok ∧ p.conds.length < 4611686018427387904 ∧ (∀ c ∈ p.conds, okC c) ∧ inI64 p.within := by
 have hr : reachBytes = 140737488351232 := rfl
 obtain ⟨_, m, _, hf⟩ := h.st Tryz.underlying37
 have h0 : Fit Tryz.prog m 9 ((us.drop 0).take (Tryz.prog.cellsOf 9)) := hf 0 _ rfl
 have h1 : Fit Tryz.prog m 2 ((us.drop 1).take (Tryz.prog.cellsOf 2)) := hf 1 _ rfl
 have h2 : Fit Tryz.prog m 25 ((us.drop 2).take (Tryz.prog.cellsOf 25)) := hf 2 _ rfl
 have h3 : Fit Tryz.prog m 22 ((us.drop 7).take (Tryz.prog.cellsOf 22)) := hf 3 _ rfl
 obtain ⟨x0, x1, x2, x3, x4, x5, x6, x7, rfl⟩ := len8 hl
 simp only [co9, co2, co25, co22, List.drop_zero, List.take_succ_cons, List.take_zero, List.drop_succ_cons] at h0 h1 h2 h3
 obtain ⟨s, e0, hs⟩ := h0.str Tryz.underlying9
 obtain ⟨w, e1, hw⟩ := h1.int Tryz.underlying2
 obtain ⟨nd, e2, hn⟩ := open_nd m _ rfl h2
 obtain ⟨cs, e3, hcs, hcl⟩ := open_conds h3
 simp only [List.cons.injEq, and_true] at e0 e1
 refine ⟨⟨s, w, nd, cs⟩, ?_, by show s.size < _; omega, hn, hcl, hcs, inI64_of hw⟩
 show [x0, x1] ++ [x2, x3, x4, x5, x6] ++ [x7] = _
 rw [e0, e1, e2, e3, encNd_eq]; rfl
def plainTs : List TypeId := [25, 23, 22, 108, 106, 104, 26, 48, 45, 46, 119, 37, 40, 38, 50, 9, 3, 2, 5]
theorem plain_ok : plainB Tryz.prog plainTs = true := by kernel_rfl
theorem okWide_agg {P : Program} {W : World} {r : Reach} {base : Nat} {t : TypeId} {fs : Array Field} {v : Value} (hu : P.underlying t = some (.struct fs)) (h : Value.okWide P W r base t v) : ∃ cs, v = .agg cs ∧ cs.size = P.cellsOf t := by
 simp only [Value.okWide, hu] at h
 obtain ⟨cs, h1, h2, _⟩ := h
 exact ⟨cs, h1, h2⟩
theorem flat_of {t : TypeId} {W : World} {base : Nat} {v : Value} (hu : (∃ k, Tryz.prog.underlying t = some (.int k)) ∨ Tryz.prog.underlying t = some .string ∨ ∃ e, Tryz.prog.underlying t = some (.slice e)) (hval : Value.okWide Tryz.prog W .any base t v) : ∀ cs, v ≠ .agg cs := by
 rintro cs rfl
 rcases hu with ⟨k, hu⟩ | hu | ⟨e, hu⟩ <;> simp [Value.okWide, Cell.okWide, Cell.ok, hu] at hval
section
variable {H : Type} {enc : TypeId × Value → H} {W : World} {base : Nat} {v : Value} {d : DataW H} {ps : List MemPlace}
theorem arg_pat (hval : Value.okWide Tryz.prog W .any base 37 v)
  (h : DataW.Trod enc Tryz.prog W 0 (fun _ => true) true 37 v d ps) (hw : ∀ n ∈ d.weights Tryz.prog 37, n ≤ reachBytes) : ∃ p : Pat, VR W (cx0 W) (.agg (encPat p)) v ∧ VRs W (cx0 W) (encPat p) v.cells.toList ∧ p.name.size < 4611686018427387904 ∧ p.node.ok ∧ p.conds.length < 4611686018427387904 ∧ (∀ c ∈ p.conds, okC c) ∧ inI64 p.within := by
 obtain ⟨n, us, h1, h2⟩ := open_arg (P := Tryz.prog) (t := 37) plainTs plain_ok (by decide) h hw
 obtain ⟨cs, rfl, hcs⟩ := okWide_agg Tryz.underlying37 hval
 have hl : us.length = 8 := by rw [h1.1]; simpa [Value.cells, co37] using hcs
 obtain ⟨p, rfl, hok⟩ := open_pat hl h2
 exact ⟨p, VR.of_row h1, h1, hok⟩
theorem arg_part (hval : Value.okWide Tryz.prog W .any base 40 v)
  (h : DataW.Trod enc Tryz.prog W 0 (fun _ => true) true 40 v d ps) (hw : ∀ n ∈ d.weights Tryz.prog 40, n ≤ reachBytes) : ∃ l : List Bd, VR W (cx0 W) (.agg [.sl (l.map encBd)]) v ∧ VRs W (cx0 W) [.sl (l.map encBd)] v.cells.toList ∧ (∀ b ∈ l, bdFits b) ∧ l.length * 80 ≤ reachBytes := by
 obtain ⟨n, us, h1, h2⟩ := open_arg (P := Tryz.prog) (t := 40) plainTs plain_ok (by decide) h hw
 obtain ⟨cs, rfl, hcs⟩ := okWide_agg Tryz.underlying40 hval
 have hl : us.length = 1 := by rw [h1.1]; simpa [Value.cells, co40] using hcs
 obtain ⟨l, rfl, hok⟩ := open_part hl h2
 exact ⟨l, VR.of_row h1, h1, hok⟩
theorem arg_evs (hval : Value.okWide Tryz.prog W .any base 26 v)
  (h : DataW.Trod enc Tryz.prog W 0 (fun _ => true) true 26 v d ps) (hw : ∀ n ∈ d.weights Tryz.prog 26, n ≤ reachBytes) : ∃ l : List Ev, VR W (cx0 W) (.sl (l.map encEv)) v ∧ (∀ e ∈ l, evFits e) ∧ l.length * 64 ≤ reachBytes := by
 obtain ⟨n, us, h1, h2⟩ := open_arg (P := Tryz.prog) (t := 26) plainTs plain_ok (by decide) h hw
 obtain ⟨es, rfl, hes, k, _, hk⟩ := h2.sl Tryz.underlying26
 simp only [co48] at hk
 obtain ⟨l, rfl, hl⟩ := rows_of (f := encEv) (p := evFits) fun x hx => open_ev (hk x hx).1 (hk x hx).2
 refine ⟨l, VR.of_cell h1 (flat_of (.inr (.inr ⟨_, Tryz.underlying26⟩)) hval), hl, ?_⟩
 rw [List.length_map, by48] at hes; exact hes
end
end Go.Abs.M
namespace Go.Abs.M
set_option maxHeartbeats 4000000
open Go Go.Abs Go.Proofs
open Go.Proofs.YtkijhgplmikboaaGreat.Rows (uptoBulk uptoBulkAll)
set_option maxRecDepth 20000
theorem bulk_le {H : Type} : ∀ {d : DataW H} {l : List (DataW H)}, d ∈ l → uptoBulk d ≤ uptoBulkAll l
  | d, x :: l, h => by
    simp only [uptoBulkAll]
    rcases List.mem_cons.1 h with rfl | h
    · omega
    · have := bulk_le h; omega
theorem bulk_one {H : Type} (d : DataW H) : 1 ≤ uptoBulk d := by
 cases d with
 | lit l => cases l <;> simp [uptoBulk]
 | nil => simp [uptoBulk]
 | ptr d => simp [uptoBulk]
 | slice elems spare => simp [uptoBulk]
 | agg parts => simp [uptoBulk]
 | iface t d => simp [uptoBulk]
 | map entries => simp [uptoBulk]
 | held h => simp [uptoBulk]
theorem bulk_len {H : Type} : ∀ l : List (DataW H), l.length ≤ uptoBulkAll l
  | [] => by simp [uptoBulkAll]
  | d :: l => by
    have h1 := bulk_len l
    have h2 := bulk_one d
    simp only [uptoBulkAll, List.length_cons]; omega
theorem bulk_sum {H : Type} {n : Nat} (D : Nat → DataW H) : ∀ (l : List Nat) (o : Nat), (∀ i x, l[i]? = some x → x ≤ uptoBulk (D (o + i))) → l.sum ≤ uptoBulkAll ((List.range l.length).map fun i => D (o + i))
  | [], o, _ => by simp [uptoBulkAll]
  | x :: l, o, h => by
    have h0 := h 0 x rfl
    have h1 := bulk_sum (n := n) D l (o + 1) fun i y hy => by
      have := h (i + 1) y (by simpa using hy)
      rwa [show o + (i + 1) = o + 1 + i by omega] at this
    rw [List.length_cons, List.range_succ_eq_map, List.map_cons, List.sum_cons]
    simp only [uptoBulkAll, Nat.add_zero, List.map_map] at h0 ⊢
    have e : (List.range l.length).map ((fun i => D (o + i)) ∘ Nat.succ) = (List.range l.length).map fun i => D (o + 1 + i) := List.map_congr_left fun i _ => by
      show D (o + (i + 1)) = _
      rw [show o + (i + 1) = o + 1 + i by omega]
    rw [e]; omega
theorem nd_bulk {H : Type} {enc : TypeId × Value → H} {W : World} : ∀ (nd : Nd) (fuel : Nat) (cs : List Value) (d : DataW H) (ps : List MemPlace),
    DataW.trod enc Tryz.prog W 0 (fun _ => true) true fuel 25 cs = some (d, ps) → VRs W (cx0 W) (encNd nd) cs → nd.size ≤ uptoBulk d := Nd.ind fun nd ih fuel cs d ps h hv => by
  obtain ⟨xs, n, _, hx, hcl, hxl, hfs⟩ := DataW.trod_struct Tryz.underlying25 h
  simp only [Prod.mk.injEq] at hx
  obtain ⟨rfl, -⟩ := hx
  have h4 := hfs 4 _ rfl
  rw [List.getElem?_eq_getElem (by rw [hxl]; decide)] at h4
  generalize hy : xs[4]'(by rw [hxl]; decide) = y at h4
  have hym : y.1 ∈ xs.map (·.1) := List.mem_map.2 ⟨y, by rw [← hy]; exact List.getElem_mem _, rfl⟩
  obtain ⟨yd, yp⟩ := y
  have hb := bulk_le hym
  have hd : uptoBulk (DataW.agg (xs.map (·.1))) = uptoBulkAll (xs.map (·.1)) + 1 := by simp [uptoBulk]
  rw [co25] at hcl
  have hcv : ∃ c, (cs.drop 4).take 1 = [c] ∧ cs[4]? = some c := by
    match cs, hcl with
    | [a, b, c, d, e], _ => exact ⟨e, rfl, rfl⟩
  obtain ⟨c, hc1, hc2⟩ := hcv
  have h4 : DataW.trod enc Tryz.prog W 0 (fun _ => true) true n 23 ((cs.drop 4).take 1) = some (yd, yp) := h4
  rw [hc1] at h4
  have hk : VR W (cx0 W) (.sl (nd.kids.map encNd)) c := hv.2.2 4 _ c (by rw [encNd_eq]; rfl) hc2
  rw [Nd.size_eq, hd]
  suffices hs : (nd.kids.map Nd.size).sum + 1 ≤ uptoBulk yd by
    have : uptoBulk yd ≤ uptoBulkAll (xs.map (·.1)) := hb
    omega
  rcases Go.Deep.open_slice Tryz.underlying23 h4 with ⟨h1, h2⟩ | ⟨a, len, cap, m, n', D, Pl, h1, _, hlc, _, hm, h2, hel⟩
  · injection h1 with h1
    subst h1
    generalize hes : nd.kids.map encNd = es at hk
    cases hk with
    | nils =>
      have : nd.kids = [] := List.map_eq_nil_iff.1 hes
      rw [this]
      exact bulk_one yd
  · injection h1 with h1
    subst h1
    have hm : m = cap := by simpa using hm
    have hyd : yd = .slice ((List.range len).map D) ((List.range (m - len)).map fun j => D (len + j)) := congrArg Prod.fst h2
    rw [hyd]
    simp only [uptoBulk]
    suffices hs : (nd.kids.map Nd.size).sum ≤ uptoBulkAll ((List.range len).map D) by omega
    generalize hes : nd.kids.map encNd = es at hk
    have hkl : nd.kids.length = es.length := by rw [← hes, List.length_map]
    cases hk with
    | nile =>
      have : nd.kids = [] := List.map_eq_nil_iff.1 hes
      rw [this]; simp
    | sl f hI hcap hlen hc hr h1 =>
      have hsum := bulk_sum (n := 0) D (nd.kids.map Nd.size) 0 fun i x hx => ?_
      · rw [List.length_map, hkl] at hsum
        simpa using hsum
      · rw [List.getElem?_map, Option.map_eq_some_iff] at hx
        obtain ⟨k, hki, rfl⟩ := hx
        have hkm := List.mem_of_getElem? hki
        have hil : i < es.length := by rw [← hkl]; exact (List.getElem?_eq_some_iff.1 hki).1
        have hei : es[i]? = some (encNd k) := by rw [← hes, List.getElem?_map, hki]; rfl
        obtain ⟨cs', hc1', hc2'⟩ := hel i (by omega)
        rw [co25] at hc1'
        obtain ⟨_, hcl', hce'⟩ := World.cells?_some hc1'
        rw [Nat.zero_add]
        have hsz := hlen i _ hei
        rw [encNd_len] at hsz
        subst hsz
        have hcell : ∀ j, j < 5 → cs'[j]? = some (f i j) := fun j hj => by
          have h5 := hce' j hj
          rw [Addr.add_lit, Addr.add_lit] at h5
          rw [← h5]; exact hc i j hil hj
        refine ih k hkm n' cs' _ _ hc2' ⟨by rw [encNd_len, hcl'], fun x hx => ?_, fun j v x hv hx => ?_⟩
        · obtain ⟨j, hj⟩ := List.getElem?_of_mem hx
          have hj5 : j < 5 := by rw [← hcl']; exact (List.getElem?_eq_some_iff.1 hj).1
          rw [hcell j hj5] at hj
          injection hj with hj
          rw [← hj]; exact h1 i j hil hj5
        · have hj5 : j < 5 := by rw [← hcl']; exact (List.getElem?_eq_some_iff.1 hx).1
          rw [hcell j hj5] at hx
          injection hx with hx
          rw [← hx]; exact hr i _ j v hei hv
theorem trod_mono {H : Type} {x : DataW H} {l : List (DataW H)} (h : x ∈ l) : uptoBulk x + 1 ≤ uptoBulk (DataW.agg l) := by
 have := bulk_le h
 simp only [uptoBulk]; omega
theorem pat_bulk {H : Type} {enc : TypeId × Value → H} {W : World} {v : Value} {d : DataW H} {ps : List MemPlace} {p : Pat} (h : DataW.Trod enc Tryz.prog W 0 (fun _ => true) true 37 v d ps) (hv : VRs W (cx0 W) (encPat p) v.cells.toList) : p.node.size ≤ uptoBulk d := by
 obtain ⟨fuel, h⟩ := h
 generalize v.cells.toList = cs at h hv
 obtain ⟨xs, n, _, hx, hcl, hxl, hfs⟩ := DataW.trod_struct Tryz.underlying37 h
 simp only [Prod.mk.injEq] at hx
 obtain ⟨rfl, -⟩ := hx
 have h4 := hfs 2 _ rfl
 rw [List.getElem?_eq_getElem (by rw [hxl]; decide)] at h4
 generalize hy : xs[2]'(by rw [hxl]; decide) = y at h4
 have hym : y.1 ∈ xs.map (·.1) := List.mem_map.2 ⟨y, by rw [← hy]; exact List.getElem_mem _, rfl⟩
 obtain ⟨yd, yp⟩ := y
 have hb := trod_mono hym
 have h4 : DataW.trod enc Tryz.prog W 0 (fun _ => true) true n 25 ((cs.drop 2).take (Tryz.prog.cellsOf 25)) = some (yd, yp) := h4
 rw [co25] at h4
 have hn : VRs W (cx0 W) (encNd p.node) ((cs.drop 2).take 5) := by
  rw [co37] at hcl
  refine ⟨by rw [encNd_len]; simp [hcl], fun x hx => hv.2.1 x (List.mem_of_mem_drop (List.mem_of_mem_take hx)), fun j u x hu hx => ?_⟩
  have hj : j < 5 := by rw [← encNd_len p.node]; exact (List.getElem?_eq_some_iff.1 hu).1
  rw [List.getElem?_take, if_pos hj, List.getElem?_drop] at hx
  refine hv.2.2 (2 + j) u x ?_ hx
  have e : encPat p = [.c (.string p.name), .c (.int .i64 p.within)] ++ (encNd p.node ++ [.sl (p.conds.map encC)]) := by rw [encNd_eq]; rfl
  rw [e, List.getElem?_append_right (by simp), show 2 + j - [V.c (.string p.name), .c (.int .i64 p.within)].length = j by simp, List.getElem?_append_left (by rw [encNd_len]; exact hj)]
  exact hu
 have := nd_bulk p.node n _ yd yp h4 hn
 have hb : uptoBulk yd + 1 ≤ uptoBulk (DataW.agg (xs.map (·.1))) := hb
 show p.node.size ≤ uptoBulk (DataW.agg (xs.map (·.1)))
 omega
theorem part_bulk {H : Type} {enc : TypeId × Value → H} {W : World} {v : Value} {d : DataW H} {ps : List MemPlace} {l : List Bd} (h : DataW.Trod enc Tryz.prog W 0 (fun _ => true) true 40 v d ps) (hv : VRs W (cx0 W) [.sl (l.map encBd)] v.cells.toList) : l.length < uptoBulk d := by
  obtain ⟨fuel, h⟩ := h
  generalize v.cells.toList = cs at h hv
  obtain ⟨xs, n, _, hx, hcl, hxl, hfs⟩ := DataW.trod_struct Tryz.underlying40 h
  simp only [Prod.mk.injEq] at hx
  obtain ⟨rfl, -⟩ := hx
  have h4 := hfs 0 _ rfl
  rw [List.getElem?_eq_getElem (by rw [hxl]; decide)] at h4
  generalize hy : xs[0]'(by rw [hxl]; decide) = y at h4
  have hym : y.1 ∈ xs.map (·.1) := List.mem_map.2 ⟨y, by rw [← hy]; exact List.getElem_mem _, rfl⟩
  obtain ⟨yd, yp⟩ := y
  have hb : uptoBulk yd + 1 ≤ uptoBulk (DataW.agg (xs.map (·.1))) := trod_mono hym
  have h4 : DataW.trod enc Tryz.prog W 0 (fun _ => true) true n 38 ((cs.drop 0).take (Tryz.prog.cellsOf 38)) = some (yd, yp) := h4
  rw [co38, List.drop_zero] at h4
  rw [co40] at hcl
  obtain ⟨c, rfl⟩ : ∃ c, cs = [c] := by
    match cs, hcl with
    | [c], _ => exact ⟨c, rfl⟩
  have hk : VR W (cx0 W) (.sl (l.map encBd)) c := hv.2.2 0 _ c rfl rfl
  suffices hs : l.length ≤ uptoBulk yd by omega
  rcases Go.Deep.open_slice Tryz.underlying38 h4 with ⟨h1, h2⟩ | ⟨a, len, cap, m, n', D, Pl, h1, _, hlc, _, hm, h2, hel⟩
  · injection h1 with h1
    subst h1
    generalize hes : l.map encBd = es at hk
    cases hk with
    | nils =>
      have : l = [] := List.map_eq_nil_iff.1 hes
      rw [this]; exact Nat.zero_le _
  · injection h1 with h1
    subst h1
    have hyd : yd = .slice ((List.range len).map D) ((List.range (m - len)).map fun j => D (len + j)) := congrArg Prod.fst h2
    have h3 := bulk_len ((List.range len).map D)
    rw [List.length_map, List.length_range] at h3
    rw [hyd]
    simp only [uptoBulk]
    generalize hes : l.map encBd = es at hk
    have hkl : l.length = es.length := by rw [← hes, List.length_map]
    cases hk with
    | nile =>
      have : l = [] := List.map_eq_nil_iff.1 hes
      rw [this]; simp
    | sl f hI hcap hlen hc hr h1 => omega
end Go.Abs.M
