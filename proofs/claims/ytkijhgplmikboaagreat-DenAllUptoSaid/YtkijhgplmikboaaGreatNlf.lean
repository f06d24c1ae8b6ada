import Derived.Test.YtkijhgplmikboaaGreatNle
import Derived.Deep.Slices
import Derived.Test.YtkijhgplmikboaaGreatRows
set_option linter.all false
set_option maxHeartbeats 4000000
namespace Go.Abs.M
open Go Go.Abs Go.Proofs
structure Ends (vs : List ByteArray) (p : List Bd) : Prop where
  ne : ofB p vs ≠ []
  last : ∀ b ∈ p, b.ev.time ≤ endOf (ofB p vs)
theorem Ends.same {vs : List ByteArray} {p : List Bd} (h : Ends vs p) : endOf p = endOf (ofB p vs) := end_eq h.ne (fun b hb => (List.mem_filter.1 hb).1) h.last
theorem ends_all {evs : List Ev} {vs : List ByteArray} {p : List Bd} (h : PartOf evs vs p) : Ends vs p := by
 have e : ofB p vs = p := ofB_all h.vars
 exact ⟨by rw [e]; exact h.ne, fun b hb => by rw [e]; exact le_end hb⟩
theorem begin_le_endQ {q : List Bd} (h : q ≠ []) : beginOf q ≤ endOf q := by
 cases q with
 | nil => exact absurd rfl h
 | cons b r => exact Int.le_trans (begin_le List.mem_cons_self) (le_end List.mem_cons_self)
theorem ends_mg {evs : List Ev} {vs ws : List ByteArray} {p q m : List Bd} (hp : PartOf evs vs p) (hq : PartOf evs ws q) (hd : ∀ v ∈ ws, v ∉ vs) (hm : mg p q = some m) (hl : endOf p < beginOf q) : Ends ws m := by
 have e : ofB m ws = q := ofB_right hm (fun b hb h => hd _ h (hp.vars b hb)) hq.vars
 obtain ⟨_, _, _, _, h5⟩ := ofB_mrg hm []
 have hbe := begin_le_endQ hq.ne
 refine ⟨by rw [e]; exact hq.ne, fun b hb => ?_⟩
 rw [e]
 rcases List.mem_append.1 (h5.subset hb) with h | h
 ·have := le_end h; omega
 ·exact le_end h
theorem rowP_same {two : Bool} {vs : List ByteArray} {b : List (List Bd)} {p : List Bd} (h : two = true → Ends vs p) : rowP two vs b p = rowL two b p := by
 unfold rowP rowL late
 cases two with
 | false => rfl
 | true => rw [(h rfl).same]
theorem pairsP_same {two : Bool} {vs : List ByteArray} {a b : List (List Bd)} (h : ∀ p ∈ a, two = true → Ends vs p) : pairsP two vs a b = pairsL two a b := by
  induction a with
  | nil => rfl
  | cons p a ih =>
    have h1 := rowP_same (b := b) (h p List.mem_cons_self)
    have h2 := ih fun q hq => h q (List.mem_cons_of_mem _ hq)
    unfold pairsP pairsL at *
    rw [List.flatMap_cons, List.flatMap_cons, h1, h2]
structure KidOk (evs : List Ev) (n : Nd) : Prop where
  same : n.denP evs = n.den evs
  part : ∀ l, n.den evs = some l → l.length ≤ 4096 ∧ ∀ p ∈ l, PartOf evs n.vars p
theorem pairs_part {evs : List Ev} {two : Bool} {vs ws us : List ByteArray} {a b : List (List Bd)} (ha : ∀ p ∈ a, PartOf evs vs p) (hb : ∀ q ∈ b, PartOf evs ws q) (hv : ∀ v ∈ vs, v ∈ us) (hw : ∀ v ∈ ws, v ∈ us) (hd : ∀ v ∈ ws, v ∉ vs) : ∀ m ∈ pairsL two a b, PartOf evs us m ∧ (two = true → Ends ws m) := by
 intro m hm
 obtain ⟨p, hp, h⟩ := List.mem_flatMap.1 hm
 obtain ⟨q, hq, h⟩ := List.mem_filterMap.1 h
 split at h
 ·cases h
 ·rename_i hl
  refine ⟨mg_part (ha p hp) (hb q hq) hv hw h, fun ht => ends_mg (ha p hp) (hb q hq) hd h ?_⟩
  subst ht
  simp only [late, Bool.true_and, decide_eq_true_eq] at hl
  omega
theorem join_same {evs : List Ev} (hd : Dist evs) {kind : Int} (hk : kind ≠ 4) : ∀ (ks : List Nd) (a : List (List Bd)) (us vs : List ByteArray), (∀ x ∈ ks, KidOk evs x) → (∀ x ∈ ks, ∀ v ∈ x.vars, v ∉ us) → Apart ks → a.length ≤ 4096 → (∀ p ∈ a, PartOf evs us p ∧ (decide (kind = 2) = true → Ends vs p)) →
    joinP (decide (kind = 2)) (some (a, vs)) (ks.map (denOf evs)) = denGo kind (some a) (ks.map (Nd.den evs)) ∧ ∀ l, denGo kind (some a) (ks.map (Nd.den evs)) = some l → l.length ≤ 4096 ∧ ∀ p ∈ l, PartOf evs (us ++ (ks.map Nd.vars).flatten) p
  | [], a, us, vs, _, _, _, hal, ha => ⟨rfl, fun l h => by cases h; exact ⟨hal, fun p hp => (ha p hp).1.sub fun v hv => List.mem_append_left _ hv⟩⟩
  | x :: ks, a, us, vs, hks, hno, hap, hal, ha => by
    have hx := hks x List.mem_cons_self
    rw [List.map_cons, List.map_cons, denOf, hx.same]
    cases hxd : x.den evs with
    | none => exact ⟨rfl, fun l h => by cases h⟩
    | some l =>
      obtain ⟨hll, hlp⟩ := hx.part l hxd
      have hxno := hno x List.mem_cons_self
      have e1 : joinP (decide (kind = 2)) (some (a, vs)) ((some l, x.vars) :: ks.map (denOf evs)) = (capL (norm (pairsP (decide (kind = 2)) vs a l))).bind fun m => joinP (decide (kind = 2)) (some (m, x.vars)) (ks.map (denOf evs)) := rfl
      have e2 : denGo kind (some a) (some l :: ks.map (Nd.den evs)) = (capL (norm (stepL kind a l))).bind fun m => denGo kind (some m) (ks.map (Nd.den evs)) := rfl
      rw [e1, e2, stepL, if_neg hk, pairsP_same fun p hp => (ha p hp).2]
      have hP := pairs_part (two := decide (kind = 2)) (us := us ++ x.vars) (fun p hp => (ha p hp).1) hlp (fun v hv => List.mem_append_left _ hv) (fun v hv => List.mem_append_right _ hv) hxno
      cases hc : capL (norm (pairsL (decide (kind = 2)) a l)) with
      | none => exact ⟨rfl, fun l h => by cases h⟩
      | some m =>
        obtain ⟨rfl, hml⟩ := capL_some hc
        rw [Option.bind_some, Option.bind_some]
        obtain ⟨hap1, hap2⟩ := List.pairwise_cons.1 hap
        have hnm := fun p hp => hP p ((norm_mem (from_apt hd) (fun y hy => (hP y hy).1.of) p).1 hp)
        obtain ⟨i1, i2⟩ := join_same hd hk ks (norm (pairsL (decide (kind = 2)) a l)) (us ++ x.vars) x.vars (fun y hy => hks y (List.mem_cons_of_mem _ hy)) (fun y hy v hv h => (List.mem_append.1 h).elim (hno y (List.mem_cons_of_mem _ hy) v hv) (hap1 y hy v hv)) hap2 hml hnm
        refine ⟨i1, fun l' h => ?_⟩
        obtain ⟨j1, j2⟩ := i2 l' h
        refine ⟨j1, fun p hp => (j2 p hp).sub fun v hv => ?_⟩
        simpa [List.append_assoc] using hv
theorem go_part {evs : List Ev} (hd : Dist evs) {us : List ByteArray} : ∀ (r : List (Option (List (List Bd)))) (a : List (List Bd)), a.length ≤ 4096 → (∀ p ∈ a, PartOf evs us p) → (∀ k ∈ r, ∀ l, k = some l → ∀ p ∈ l, PartOf evs us p) → ∀ l, denGo 4 (some a) r = some l → l.length ≤ 4096 ∧ ∀ p ∈ l, PartOf evs us p
  | [], a, hl, ha, _, l, h => by cases h; exact ⟨hl, ha⟩
  | none :: r, a, _, _, _, l, h => by cases h
  | some k :: r, a, hl, ha, hr, l, h => by
    have e : denGo 4 (some a) (some k :: r) = (capL (norm (a ++ k))).bind fun m => denGo 4 (some m) r := rfl
    rw [e] at h
    cases hc : capL (norm (a ++ k)) with
    | none => rw [hc] at h; cases h
    | some m =>
      rw [hc] at h
      obtain ⟨rfl, hml⟩ := capL_some hc
      exact go_part hd r _ hml (norm_part hd fun p hp => (List.mem_append.1 hp).elim (ha p) (hr (some k) List.mem_cons_self k rfl p)) (fun k hk => hr k (List.mem_cons_of_mem _ hk)) l h
theorem Nd.vars_kid {n x : Nd} (hx : x ∈ n.kids) : ∀ v ∈ x.vars, v ∈ n.vars := fun v hv => (n.vars_mem v).2 (.inr ⟨x, hx, hv⟩)
theorem Nd.kid_ok {evs : List Ev} (hd : Dist evs) (hl : evs.length ≤ 64) (hv : ∀ e ∈ evs, evErr e = 0) : ∀ n : Nd, n.fine → KidOk evs n := Nd.ind fun n ih hf => by
  have hks : ∀ x ∈ n.kids, KidOk evs x := fun x hx => ih x hx (hf.kid hx)
  have hmap : n.kids.map (Nd.denP evs) = n.kids.map (Nd.den evs) := List.map_congr_left fun x hx => (hks x hx).same
  by_cases hk : n.kind = 1
  · have hn := leaf_name hf.err hk
    have e1 : n.denP evs = some (norm (leafL n evs)) := by rw [Nd.denP_eq, if_pos hk]
    have e2 : n.den evs = some (norm (leafL n evs)) := by rw [Nd.den_eq, if_pos hk]
    refine ⟨by rw [e1, e2], fun l h => ?_⟩
    rw [e2] at h
    cases h
    refine ⟨Nat.le_trans (norm_len _) (Nat.le_trans (leafL_len n evs) (by omega)), norm_part hd fun p hp => ?_⟩
    obtain ⟨e, he, rfl⟩ := List.mem_map.1 hp
    have he := (List.mem_filter.1 he).1
    refine ⟨leaf_part hn (hv e he), List.cons_ne_nil _ _, fun b hb => ?_, fun b hb => ?_⟩
    · rw [List.mem_singleton.1 hb]; exact (n.vars_mem _).2 (.inl ⟨name_size hn, rfl⟩)
    · rw [List.mem_singleton.1 hb]; exact he
  · obtain ⟨hkk, hk2, _⟩ := hf.join hk
    by_cases h4 : n.kind = 4
    · have e2 : n.den evs = denGo 4 none (n.kids.map (Nd.den evs)) := by rw [Nd.den_eq, if_neg hk, h4]
      refine ⟨?_, ?_⟩
      · rw [Nd.denP_eq, if_neg hk, if_pos h4, e2, hmap]
        refine orP_den hd _ fun k hk l hl => ?_
        obtain ⟨x, hx, rfl⟩ := List.mem_map.1 hk
        exact (Nd.ref_den hd x).2 l hl
      · intro l h
        rw [e2] at h
        cases hkd : n.kids with
        | nil => rw [hkd] at hk2; simp at hk2
        | cons x ks =>
          have hxm : x ∈ n.kids := by rw [hkd]; exact List.mem_cons_self
          rw [hkd, List.map_cons] at h
          cases hxd : x.den evs with
          | none => rw [hxd] at h; cases h
          | some k =>
            rw [hxd] at h
            obtain ⟨h1, h2⟩ := (hks x hxm).part k hxd
            have e : denGo 4 none (some k :: ks.map (Nd.den evs)) = (capL k).bind fun m => denGo 4 (some m) (ks.map (Nd.den evs)) := rfl
            rw [e, capL, if_neg (by omega), Option.bind_some] at h
            refine go_part hd _ k h1 (fun p hp => (h2 p hp).sub (Nd.vars_kid hxm)) (fun r hr l' hl' p hp => ?_) l h
            obtain ⟨y, hy, rfl⟩ := List.mem_map.1 hr
            have hym : y ∈ n.kids := by rw [hkd]; exact List.mem_cons_of_mem _ hy
            exact (((hks y hym).part l' hl').2 p hp).sub (Nd.vars_kid hym)
    · have hkj : n.kind = 2 ∨ n.kind = 3 := by
        rcases hkk with h | h | h
        · exact .inl h
        · exact .inr h
        · exact absurd h h4
      have hap := Nd.binds_apart hf.binds hkj
      have e2 : n.den evs = denGo n.kind none (n.kids.map (Nd.den evs)) := by rw [Nd.den_eq, if_neg hk]
      have e1 : n.denP evs = joinP (decide (n.kind = 2)) none (n.kids.map (denOf evs)) := by rw [Nd.denP_eq, if_neg hk, if_neg h4]
      cases hkd : n.kids with
      | nil => rw [hkd] at hk2; simp at hk2
      | cons x ks =>
        have hxm : x ∈ n.kids := by rw [hkd]; exact List.mem_cons_self
        rw [hkd, List.map_cons] at e1 e2
        rw [hkd] at hap
        obtain ⟨hap1, hap2⟩ := List.pairwise_cons.1 hap
        rw [denOf, (hks x hxm).same] at e1
        cases hxd : x.den evs with
        | none =>
          rw [hxd] at e1 e2
          exact ⟨e1.trans e2.symm, fun l h => by rw [e2] at h; cases h⟩
        | some k =>
          rw [hxd] at e1 e2
          obtain ⟨h1, h2⟩ := (hks x hxm).part k hxd
          have e3 : denGo n.kind none (some k :: ks.map (Nd.den evs)) = (capL k).bind fun m => denGo n.kind (some m) (ks.map (Nd.den evs)) := rfl
          rw [e3, capL, if_neg (by omega), Option.bind_some] at e2
          obtain ⟨j1, j2⟩ := join_same hd h4 ks k x.vars x.vars (fun y hy => hks y (by rw [hkd]; exact List.mem_cons_of_mem _ hy)) hap1 hap2 h1 fun p hp => ⟨h2 p hp, fun _ => ends_all (h2 p hp)⟩
          refine ⟨e1.trans (j1.trans e2.symm), fun l h => ?_⟩
          rw [e2] at h
          obtain ⟨i1, i2⟩ := j2 l h
          refine ⟨i1, fun p hp => (i2 p hp).sub fun v hv => ?_⟩
          rcases List.mem_append.1 hv with hv | hv
          · exact Nd.vars_kid hxm v hv
          · obtain ⟨w, hw, hv⟩ := List.mem_flatten.1 hv
            obtain ⟨y, hy, rfl⟩ := List.mem_map.1 hw
            exact Nd.vars_kid (by rw [hkd]; exact List.mem_cons_of_mem _ hy) v hv
theorem nodeOut_same (n : Nd) (evs : List Ev) : nodeOut n evs (n.denP evs) = nodeOut n evs (n.ref evs) := by
 unfold nodeOut
 split
 ·rename_i h1
  split
  ·rename_i h2
   split
   ·rfl
   ·split
    ·rfl
    ·rename_i h3 h4
     obtain ⟨hz, hd⟩ := evsBad_no (by simpa using h4)
     rw [(Nd.kid_ok hd (by omega) hz n ⟨shape_err h1, h2⟩).same, (Nd.ref_den hd n).1]
  ·rfl
 ·rfl
def sA : ByteArray := ⟨#[65]⟩
def sB : ByteArray := ⟨#[66]⟩
def vA : ByteArray := ⟨#[97]⟩
def vB : ByteArray := ⟨#[98]⟩
def nA : Nd := ⟨1, vA, sA, [], []⟩
def nB : Nd := ⟨1, vB, sB, [], []⟩
def nS : Nd := ⟨2, ⟨#[]⟩, ⟨#[]⟩, [], [nA, nB]⟩
def pL : Pat := ⟨⟨#[112]⟩, 5, nS, []⟩
def ev1 : Ev := ⟨0, 0, 1, sA, []⟩
def ev2 : Ev := ⟨1, 0, 3, sB, []⟩
def ev3 : Ev := ⟨1, 1, 9, sB, []⟩
def evL : List Ev := [ev1, ev2, ev3]
def bA1 : Bd := ⟨vA, ev1⟩
def bB2 : Bd := ⟨vB, ev2⟩
def bB3 : Bd := ⟨vB, ev3⟩
theorem eAA : eqS sA sA = true := eqS_iff.2 rfl
theorem eBB : eqS sB sB = true := eqS_iff.2 rfl
theorem eAB : eqS sA sB = false := by simp [eqS, sA, sB]
theorem eBA : eqS sB sA = false := by simp [eqS, sA, sB]
theorem eba : eqS vB vA = false := by simp [eqS, vA, vB]
theorem lab : leS vA vB = true := by simp [vA, vB, leS_one]
theorem lba : leS vB vA = false := by simp [vA, vB, leS_one]
theorem shL : nS.shape = 0 := by rfl
theorem varsA : nA.vars = [vA] := by rfl
theorem varsB : nB.vars = [vB] := by rfl
theorem biL : nS.binds = 0 := by
 rw [Nd.binds_eq]
 show bindsFrom true [] [(nA.binds, nA.vars), (nB.binds, nB.vars)] = 0
 have h1 : nA.binds = 0 := by rw [Nd.binds_eq]; rfl
 have h2 : nB.binds = 0 := by rw [Nd.binds_eq]; rfl
 rw [h1, h2, varsA, varsB]
 simp [bindsFrom, meets, hasS, eba]
theorem badL : evsBad evL = false := by rfl
theorem tA1 : termB nA ev1 = true := by show (true && eqS sA sA && true) = true; rw [eAA]; rfl
theorem tA2 : ¬ termB nA ev2 = true := by show ¬ (true && eqS sB sA && true) = true; rw [eBA]; simp
theorem tA3 : ¬ termB nA ev3 = true := by show ¬ (true && eqS sB sA && true) = true; rw [eBA]; simp
theorem tB1 : ¬ termB nB ev1 = true := by show ¬ (true && eqS sA sB && true) = true; rw [eAB]; simp
theorem tB2 : termB nB ev2 = true := by show (true && eqS sB sB && true) = true; rw [eBB]; rfl
theorem tB3 : termB nB ev3 = true := by show (true && eqS sB sB && true) = true; rw [eBB]; rfl
theorem lfA : leafL nA evL = [[bA1]] := by
 show List.map _ (List.filter (termB nA) [ev1, ev2, ev3]) = _
 rw [List.filter_cons_of_pos tA1, List.filter_cons_of_neg tA2, List.filter_cons_of_neg tA3]; rfl
theorem lfB : leafL nB evL = [[bB2], [bB3]] := by
 show List.map _ (List.filter (termB nB) [ev1, ev2, ev3]) = _
 rw [List.filter_cons_of_neg tB1, List.filter_cons_of_pos tB2, List.filter_cons_of_pos tB3]; rfl
theorem pA1 : partErr [bA1] = 0 := leaf_part (by rfl) (by rfl)
theorem pB2 : partErr [bB2] = 0 := leaf_part (by rfl) (by rfl)
theorem pB3 : partErr [bB3] = 0 := leaf_part (by rfl) (by rfl)
theorem pAB2 : partErr [bA1, bB2] = 0 := by
 rw [part_iff]
 refine ⟨by simp, ?_, ?_⟩
 ·intro b hb
  simp at hb
  rcases hb with rfl | rfl <;> exact ⟨rfl, rfl⟩
 ·simp [Aft, bA1, bB2, lba, idOf, ev1, ev2]
theorem pAB3 : partErr [bA1, bB3] = 0 := by
 rw [part_iff]
 refine ⟨by simp, ?_, ?_⟩
 ·intro b hb
  simp at hb
  rcases hb with rfl | rfl <;> exact ⟨rfl, rfl⟩
 ·simp [Aft, bA1, bB3, lba, idOf, ev1, ev3]
theorem mgAB2 : mg [bA1] [bB2] = some [bA1, bB2] := by
 have e : mrg [bA1] [bB2] = [bA1, bB2] := by rw [mrg, if_pos (by simp [bA1, bB2, lab]), mrg]
 rw [mg, e, if_pos ⟨pA1, pB2, pAB2⟩]
theorem mgAB3 : mg [bA1] [bB3] = some [bA1, bB3] := by
 have e : mrg [bA1] [bB3] = [bA1, bB3] := by rw [mrg, if_pos (by simp [bA1, bB3, lab]), mrg]
 rw [mg, e, if_pos ⟨pA1, pB3, pAB3⟩]
theorem cmpS_refl (a : ByteArray) : cmpS a a = 0 := tri_S.refl a
theorem srtB : SrtL [[bB2], [bB3]] := by
 refine List.pairwise_cons.2 ⟨fun x hx => ?_, List.pairwise_singleton ..⟩
 rw [List.mem_singleton.1 hx]
 simp [cmpL, cmpBd, bB2, bB3, cmpS_refl, ev2, ev3, cmpId, orI, cmpI, idOf]
theorem srtAB : SrtL [[bA1, bB2], [bA1, bB3]] := by
 refine List.pairwise_cons.2 ⟨fun x hx => ?_, List.pairwise_singleton ..⟩
 rw [List.mem_singleton.1 hx]
 simp [cmpL, cmpBd, bA1, bB2, bB3, cmpS_refl, ev1, ev2, ev3, cmpId, orI, cmpI, idOf]
theorem distL : Dist evL := (evsBad_no badL).2
theorem denA : nA.den evL = some [[bA1]] := by
 rw [Nd.den_eq, if_pos (show nA.kind = 1 from rfl), lfA, norm_id (from_apt distL) (fun p hp b hb => ?_) (List.pairwise_singleton ..)]
 rw [List.mem_singleton.1 hp] at hb
 rw [List.mem_singleton.1 hb]; exact List.mem_cons_self
theorem frB : ∀ p ∈ [[bB2], [bB3]], From evL p := fun p hp b hb => by
 simp at hp
 rcases hp with rfl | rfl <;> (rw [List.mem_singleton.1 hb]; simp [evL, bB2, bB3])
theorem denB : nB.den evL = some [[bB2], [bB3]] := by
 rw [Nd.den_eq, if_pos (show nB.kind = 1 from rfl), lfB, norm_id (from_apt distL) frB srtB]
theorem frAB : ∀ p ∈ [[bA1, bB2], [bA1, bB3]], From evL p := fun p hp b hb => by
 simp at hp
 rcases hp with rfl | rfl <;> (simp at hb; rcases hb with rfl | rfl <;> simp [evL, bA1, bB2, bB3])
theorem pairL : pairsL true [[bA1]] [[bB2], [bB3]] = [[bA1, bB2], [bA1, bB3]] := by
 have h2 : late true [bA1] [bB2] = false := by rfl
 have h3 : late true [bA1] [bB3] = false := by rfl
 simp [pairsL, rowL, h2, h3, mgAB2, mgAB3]
theorem denL : nS.den evL = some [[bA1, bB2], [bA1, bB3]] := by
 rw [Nd.den_eq, if_neg (by decide)]
 show denGo 2 none [nA.den evL, nB.den evL] = _
 rw [denA, denB]
 show (capL (norm (stepL 2 [[bA1]] [[bB2], [bB3]]))).bind (fun l => some l) = _
 rw [stepL, if_neg (by decide)]
 show (capL (norm (pairsL true [[bA1]] [[bB2], [bB3]]))).bind (fun l => some l) = _
 rw [pairL, norm_id (from_apt distL) frAB srtAB]; rfl
theorem patL : patErr pL = 0 := by
 have h : patOwn pL = false := by rfl
 rw [patErr, h, if_neg Bool.false_ne_true, if_pos (show pL.node.shape = 0 from shL), if_pos (show pL.node.binds = 0 from biL)]
 rfl
theorem outL : allOut pL (nodeOut nS evL (nS.denP evL)) = ([[bA1, bB2]], 0) := by
 rw [nodeOut_same, (Nd.ref_den distL nS).1, denL, nodeOut, if_pos shL, if_pos biL, if_neg (by decide), badL, if_neg Bool.false_ne_true, optO, allOut, if_pos patL, if_pos rfl]
 rfl
theorem okNd_leaf {v t : ByteArray} (hv : v.size < 4611686018427387904) (ht : t.size < 4611686018427387904) : (Nd.mk 1 v t [] []).ok := by
 rw [Nd.ok_eq]
 exact ⟨⟨hv, ht, (by show 0 < 4611686018427387904; decide), fun c h => by cases h⟩, fun p h => by cases h⟩
theorem okS : nS.ok := by
 rw [Nd.ok_eq]
 refine ⟨⟨by decide, by decide, by decide, fun c h => by cases h⟩, fun p h => ?_⟩
 have h : p ∈ [nA.ok, nB.ok] := h
 rcases List.mem_cons.1 h with rfl | h
 ·exact okNd_leaf (by decide) (by decide)
 ·rw [List.mem_singleton.1 h]; exact okNd_leaf (by decide) (by decide)
theorem okPL : okPat pL := ⟨by decide, by show nS.size ≤ 1048576; rw [show nS.size = 3 from rfl]; decide, okS, by decide, fun c h => by cases h⟩
theorem okE_L : ∀ e ∈ evL, okE e := fun e he => by
 have h : ∀ e ∈ evL, e.type.size < 4611686018427387904 ∧ e.attrs = [] := by decide
 obtain ⟨h1, h2⟩ := h e he
 exact ⟨h1, by rw [h2]; decide, fun a ha => by rw [h2] at ha; cases ha⟩
theorem of_vA : ofB [bA1, bB2] [vA] = [bA1] := by
 have h1 : hasS [vA] bA1.var = true := hasS_iff.2 List.mem_cons_self
 have h2 : ¬ hasS [vA] bB2.var = true := fun h => by have := hasS_iff.1 h; simp [bB2, vA, vB] at this
 rw [ofB, List.filter_cons_of_pos (by exact h1), List.filter_cons_of_neg (by exact h2)]; rfl
theorem of_vB : ofB [bA1, bB2] [vB] = [bB2] := by
 have h1 : ¬ hasS [vB] bA1.var = true := fun h => by have := hasS_iff.1 h; simp [bA1, vA, vB] at this
 have h2 : hasS [vB] bB2.var = true := hasS_iff.2 List.mem_cons_self
 rw [ofB, List.filter_cons_of_neg (by exact h1), List.filter_cons_of_pos (by exact h2)]; rfl
theorem fitsL : nS.fitsP [bA1, bB2] = true := by
 have hA : nA.fitsP [bA1] = true := by
  rw [Nd.fitsP_eq, if_pos (show nA.kind = 1 from rfl)]
  show (eqS vA vA && termB nA ev1) = true
  rw [tA1, eqS_iff.2 rfl]; rfl
 have hB : nB.fitsP [bB2] = true := by
  rw [Nd.fitsP_eq, if_pos (show nB.kind = 1 from rfl)]
  show (eqS vB vB && termB nB ev2) = true
  rw [tB2, eqS_iff.2 rfl]; rfl
 rw [Nd.fitsP_eq, if_neg (show ¬ nS.kind = 1 by decide), if_neg (show ¬ nS.kind = 4 by decide)]
 show allFitP [bA1, bB2] (kidsFitP true [bA1, bB2] (-1) 0 [(nA.fitsP, [vA]), (nB.fitsP, [vB])]) = true
 simp only [kidsFitP, of_vA, of_vB, hA, hB]
 rfl
theorem isL : isP pL [bA1, bB2] = true := by
 rw [isP, Nd.FitsP, decide_eq_true patL, decide_eq_true (show pL.node.shape = 0 from shL), decide_eq_true (show pL.node.binds = 0 from biL), decide_eq_true pAB2, show pL.node.fitsP [bA1, bB2] = true from fitsL]
 rfl
end Go.Abs.M
namespace Go.Abs
open Go
section
variable {P : Program} {σ : Hp} {s : St} {n : Nat} {Q : Exit → St → Hp → Prop}
variable [Mode]
theorem VR.wkSl {w : World} {cx : Cx} {es : List (List V)} {x : Value} (h : VR w cx (.sl es) x) : VR w cx (.sl (es.map (List.map wk1))) x := by
  generalize hv : V.sl es = v at h
  cases h with
  | c x => cases hv
  | nils => injection hv with hv; subst hv; exact .nils
  | nile a => injection hv with hv; subst hv; exact .nile a
  | sl f hI hcap hlen hc hr h1 =>
    injection hv with hv
    subst hv
    have := VR.sl (w := w) (cx := cx) (es := es.map (List.map wk1)) f hI (by simpa using hcap) (fun i e he => by
      rw [List.getElem?_map, Option.map_eq_some_iff] at he
      obtain ⟨e', h', rfl⟩ := he
      rw [List.length_map]; exact hlen i e' h') (fun i j hi hj => hc i j (by simpa using hi) hj) (fun i e j v he hv => by
      rw [List.getElem?_map, Option.map_eq_some_iff] at he
      obtain ⟨e', h', rfl⟩ := he
      rw [List.getElem?_map, Option.map_eq_some_iff] at hv
      obtain ⟨v', hv', rfl⟩ := hv
      exact wk1_VR (hr i e' j v' h' hv')) (fun i j hi hj => h1 i j (by simpa using hi) hj)
    rwa [List.length_map] at this
  | _ => cases hv
def wkD : V → V
  | .sl es => .sl (es.map (List.map wk1))
  | v => wk1 v
theorem wkD_VR {w : World} {cx : Cx} {v : V} {x : Value} (h : VR w cx v x) : VR w cx (wkD v) x := by
 unfold wkD
 split
 ·exact h.wkSl
 ·exact wk1_VR h
def wkA : V → V
  | .agg vs => .agg (vs.map wkD)
  | v => wkD v
theorem wkA_VR {w : World} {cx : Cx} {v : V} {x : Value} (h : VR w cx v x) : VR w cx (wkA v) x := by
  unfold wkA
  split
  · cases h with
    | agg h1 hn hh =>
      refine .agg h1 (by simpa using hn) (fun i v x hv hx => ?_)
      rw [List.getElem?_map, Option.map_eq_some_iff] at hv
      obtain ⟨u, hu, rfl⟩ := hv
      exact wkD_VR (hh i u x hu hx)
  · exact wkD_VR h
theorem ACalls.wkA {f : FuncId} {args : List V} {R : V → Hp → Prop} (h : ACalls P f (args.map Go.Abs.wkA) σ R) : ACalls P f args σ R :=
 ⟨h.1, fun cx w xs hH ha => h.2 cx w xs hH ⟨by simpa using ha.1, fun i v x hv hx => by
  rw [List.getElem?_map, Option.map_eq_some_iff] at hv
  obtain ⟨u, hu, rfl⟩ := hv
  exact wkA_VR (ha.2 i u x hu hx)⟩⟩
end
end Go.Abs
namespace Go.Abs.M
open Go Go.Abs Go.Proofs
set_option maxRecDepth 20000
def fitN (n : Nd) : Bool := decide (n.terms ≤ 200) && decide (n.deep ≤ 50)
theorem fit_spec (n : Nd) (hn : n.small) : PCalls Tryz.prog 9 [.agg (encNd n)] (fun v => v = .c (.bool (fitN n))) := by
 have q2 : ((n.deep : Int) ≤ 50) = (n.deep ≤ 50) := by rw [eq_iff_iff]; omega
 refine PCalls.intro Tryz.call9 Tryz.func9 rfl Tryz.ntmps9 Tryz.results9 (by simp) ?_
 refine AW.sr @nd ?_
 refine AW.seq_j (fun s' σ' => σ' = Hp.empty ∧ s'.t 2 = .c (.bool (fitN n))) ?_ ?_
 ·by_cases ht : n.terms ≤ 200
  ·have q1 : ((n.terms : Int) ≤ 200) = True := eq_true (by omega)
   refine AW.reg0 ?_
   refine S.one (J3 @nd q1 q2) ?_
   refine S.cl (J3 @nd q1 q2) (rterms_spec n hn) ?_
   all_goals (refine S.sp (J3 @nd q1 q2) fun b a5 => ?_; cases b <;> (try exact nope a5))
   all_goals iterate 2 refine S.one (J3 @nd q1 q2) ?_
   all_goals (first | (refine S.cl (J3 @nd q1 q2) (rdeep_spec n hn) ?_) | refine S.one trivial ?_)
   all_goals iterate 3 refine S.one (J3 @nd q1 q2) ?_
   all_goals refine S.nil ?_
   all_goals simp only [ze, simprocAttr, nd, q1, q2]
   all_goals simp_all [fitN]
  ·have q1 : ((n.terms : Int) ≤ 200) = False := eq_false (by omega)
   refine AW.reg0 ?_
   refine S.one (J3 @nd q1 q2) ?_
   refine S.cl (J3 @nd q1 q2) (rterms_spec n hn) ?_
   all_goals (refine S.sp (J3 @nd q1 q2) fun b a5 => ?_; cases b <;> (try exact nope a5))
   all_goals iterate 2 refine S.one (J3 @nd q1 q2) ?_
   all_goals (first | (refine S.cl (J3 @nd q1 q2) (rdeep_spec n hn) ?_) | refine S.one trivial ?_)
   all_goals iterate 3 refine S.one (J3 @nd q1 q2) ?_
   all_goals refine S.nil ?_
   all_goals simp only [ze, simprocAttr, nd, q1, q2]
   all_goals (simp_all [fitN] <;> omega)
 rintro s σ ⟨rfl, e2⟩
 refine AW.ret ?_
 all_goals simp only [zs, simprocAttr, e2]
 all_goals exact fn1
def liveC : List V := [.c (.string ⟨#[112]⟩), .c (.int .i64 5), .c (.int .i64 2), .c (.string ⟨#[]⟩), .c (.string ⟨#[]⟩), .c (.slice none 0 0), .sl [[.c (.int .i64 1), .c (.string ⟨#[97]⟩), .c (.string ⟨#[65]⟩), .c (.slice none 0 0), .c (.slice none 0 0)], [.c (.int .i64 1), .c (.string ⟨#[98]⟩), .c (.string ⟨#[66]⟩), .c (.slice none 0 0), .c (.slice none 0 0)]], .c (.slice none 0 0)]
def liveB : List (List V) := [[.c (.string ⟨#[97]⟩), .c (.int .i64 0), .c (.int .i64 0), .c (.int .i64 1), .c (.string ⟨#[65]⟩), .sl []], [.c (.string ⟨#[98]⟩), .c (.int .i64 1), .c (.int .i64 0), .c (.int .i64 3), .c (.string ⟨#[66]⟩), .sl []]]
theorem okP_L : okP [bA1, bB2] := fun b hb => by
 simp at hb
 rcases hb with rfl | rfl
 ·exact ⟨by decide, okE_L ev1 (by simp [evL])⟩
 ·exact ⟨by decide, okE_L ev2 (by simp [evL])⟩
theorem live_spec : PCalls Tryz.prog 10 [] (fun v => v = .c (.bool true)) := by
 have hall := All_P pL okPL evL (by decide) okE_L
 rw [show pL.node = nS from rfl, outL] at hall
 refine ACalls.bare (R := fun v _ => v = .c (.bool true)) (ACalls.intro Tryz.call10 Tryz.func10 rfl Tryz.ntmps10 Tryz.results10 (by simp) ?_) fun _ _ h => h
 refine AW.sr trivial ?_
 refine AW.seq_k fun K2 h2 => ?_
 refine AW.reg0 ?_
 iterate 2 refine S.one trivial ?_
 (refine S.g rfl rfl fun Y Z => ?_; simp only [zb, simprocAttr, -Int.reduceNatCast', -Int.reduceToNat, tt]; refine ⟨rfl, (by simp), ?_⟩ <;> (refine Z _ _ ?_; clear Z Y))
 all_goals iterate 4 refine S.one trivial ?_
 all_goals (refine S.nil ?_; simp only [ze, simprocAttr]; apply_assumption)
 refine AW.seq_k fun K3 h3 => ?_
 all_goals refine AW.reg0 ?_
 all_goals iterate 6 refine S.one trivial ?_
 all_goals (refine S.g rfl rfl fun Y Z => ?_; simp only [zb, simprocAttr, -Int.reduceNatCast', -Int.reduceToNat, tt]; refine ⟨rfl, (by simp), ?_⟩ <;> (refine Z _ _ ?_; clear Z Y))
 all_goals (refine S.g rfl rfl fun Y Z => ?_; simp only [zz, simprocAttr, -Int.reduceNatCast', -Int.reduceToNat]; (refine ACalls.wkA (ACalls.to hall ?_); rintro _ σ1 ⟨u, rfl, hown, hok, hlen⟩) <;> (refine Z _ _ ?_; clear Z Y))
 all_goals iterate 5 refine S.one trivial ?_
 all_goals (refine S.nil ?_; simp only [ze, simprocAttr]; apply_assumption)
 rcases hown with ⟨_, hl, _⟩ | ⟨k, rfl, _, rfl⟩
 ·cases hl
 refine AW.gen (fun s' => s'.t 1 = .lp 1 0 ∧ s'.l 1 = some liveC ∧ s'.t 2 = .gl k ∧ s'.t 3 = .c (.int .i64 0)) ?_ ?_
 ·simp only [zs, simprocAttr]
  all_goals exact fn1
 rintro s ⟨e1, l1, e2, e3⟩
 refine AW.freeze (k := k) (T := (40, 1)) (es := [[bA1, bB2]].map encP) (by simp [hpP]) ?_
 have hem : (hpP Hp.empty k [[bA1, bB2]]).setGr k none = Hp.empty := by simp [hpP]
 rw [hem]
 have f1 : (s.fz k ([[bA1, bB2]].map encP)).t 1 = .lp 1 0 := by simp [e1, fzV, fz1]
 have f2 : (s.fz k ([[bA1, bB2]].map encP)).t 2 = .sl [[.sl liveB]] := by simp [e2, fzV, fz1]; rfl
 have f3 : (s.fz k ([[bA1, bB2]].map encP)).t 3 = .c (.int .i64 0) := by simp [e3, fzV, fz1]
 have m1 : (s.fz k ([[bA1, bB2]].map encP)).l 1 = some liveC := by simp [l1]; rfl
 generalize s.fz k ([[bA1, bB2]].map encP) = s at *
 have his := Is_spec pL [bA1, bB2] okPL okP_L (fun b hb => by simp at hb; rcases hb with rfl | rfl <;> decide) (by decide) (fun b hb => by simp at hb; rcases hb with rfl | rfl <;> (unfold inI64; decide)) (by unfold inI64; decide)
 rw [isL, show [bA1, bB2].map encBd = liveB from rfl] at his
 have h01 : ((0 : Int) < ((1 : Nat) : Int)) = True := eq_true (by decide)
 have h12 : ((1 : Int) < ((2 : Nat) : Int)) = True := eq_true (by decide)
 have h22 : (((2 : Nat) : Int) == 2) = true := rfl
 have h11 : (((1 : Nat) : Int) == 1) = true := rfl
 unfold liveB at his f2
 unfold liveC at m1
 refine AW.seq_k fun K4 h4 => ?_
 all_goals refine AW.dv { sd := fun d => d == 1 } [(0,0),(1,0),(2,0),(3,0),(4,0),(5,0),(6,0),(7,0),(8,0),(9,0),(10,0),(11,1),(12,0),(13,0),(14,0),(15,0),(16,0),(17,0),(18,0),(19,1),(20,0),(21,0),(22,0),(23,1),(24,0),(25,0),(26,0),(28,0),(29,0),(27,1),(30,1),(31,2),(32,0),(33,0)] ?_
 all_goals have q1q := J12 f1 m1 f2 f3 h01 h12 h22 h11 @Int.le_refl @Int.toNat_zero @Nat.zero_lt_one (J6 @Nat.lt_add_one @List.length_cons.{0} @List.length_nil.{0} @List.getD_cons_zero.{0} @List.getD_cons_succ.{0} @Int.toNat_one)
 all_goals (refine D.g rfl trivial rfl rfl fun Y Z => ?_; simp only [zz, simprocAttr, -Int.reduceNatCast', -Int.reduceToNat, q1q]; refine Z _ _ ?_; clear Z Y)
 all_goals (refine D.sp q1q fun b a21 => ?_; cases b <;> (try exact nope a21))
 all_goals have q2q := J12 f1 m1 f2 f3 h01 h12 h22 h11 @Int.le_refl @Int.toNat_zero @Nat.zero_lt_one (J6 @Nat.lt_add_one @List.length_cons.{0} @List.length_nil.{0} @List.getD_cons_zero.{0} @List.getD_cons_succ.{0} @Int.toNat_one)
 all_goals iterate 3 ((first | refine D.g rfl trivial rfl rfl fun Y Z => ?_ | refine D.y rfl trivial rfl rfl rfl rfl fun Y Z => ?_ | refine D.x rfl (fun h => by cases h) rfl rfl rfl rfl fun Y Z => ?_ | refine D.u rfl (fun h => by cases h) rfl rfl rfl rfl fun Y Z => ?_); simp only [zz, simprocAttr, -Int.reduceNatCast', -Int.reduceToNat, tt, q2q]; refine Z _ _ ?_; clear Z Y)
 all_goals (first | (refine D.sp q2q fun b a25 => ?_; cases b <;> (try exact nope a25)) | refine D.one trivial ?_)
 all_goals iterate 5 ((first | refine D.g rfl trivial rfl rfl fun Y Z => ?_ | refine D.y rfl trivial rfl rfl rfl rfl fun Y Z => ?_ | refine D.x rfl (fun h => by cases h) rfl rfl rfl rfl fun Y Z => ?_ | refine D.u rfl (fun h => by cases h) rfl rfl rfl rfl fun Y Z => ?_); simp only [zz, simprocAttr, -Int.reduceNatCast', -Int.reduceToNat, f1, m1, f2, f3, h01, h12, h22, h11, Int.le_refl, Int.toNat_zero, Nat.zero_lt_one, Nat.lt_add_one, List.length_cons, List.length_nil, List.getD_cons_zero, List.getD_cons_succ, Int.reduceLE, Int.reduceLT, Int.reduceToNat, Int.toNat_one, tt]; refine Z _ _ ?_; clear Z Y)
 all_goals ((first | refine D.y rfl (by first | rfl | (simp only [stC, ze, simprocAttr, -Int.reduceNatCast', -Int.reduceToNat, f1, m1, f2, f3, h01, h12, h22, h11, Int.le_refl, Int.toNat_zero, Nat.zero_lt_one, Nat.lt_add_one, List.length_cons, List.length_nil, List.getD_cons_zero, List.getD_cons_succ, Int.reduceLE, Int.reduceLT, Int.reduceToNat, Int.toNat_one]; first | done | rfl)) rfl rfl rfl rfl fun Y Z => ?_ | refine D.x rfl (fun _ => rfl) rfl rfl rfl rfl fun Y Z => ?_ | refine D.u rfl (fun _ => rfl) rfl rfl rfl rfl fun Y Z => ?_); simp only [zz, simprocAttr, -Int.reduceNatCast', -Int.reduceToNat, tt, f1, m1, f2, f3, h01, h12, h22, h11, Int.le_refl, Int.toNat_zero, Nat.zero_lt_one, Nat.lt_add_one, List.length_cons, List.length_nil, List.getD_cons_zero, List.getD_cons_succ, Int.reduceLE, Int.reduceLT, Int.reduceToNat, Int.toNat_one]; refine Z _ _ ?_; clear Z Y)
 all_goals have q3q := J12 f1 m1 f2 f3 h01 h12 h22 h11 @Int.le_refl @Int.toNat_zero @Nat.zero_lt_one (J6 @Nat.lt_add_one @List.length_cons.{0} @List.length_nil.{0} @List.getD_cons_zero.{0} @List.getD_cons_succ.{0} @Int.toNat_one)
 all_goals ((first | refine D.y rfl trivial rfl rfl rfl rfl fun Y Z => ?_ | refine D.x rfl (fun h => by cases h) rfl rfl rfl rfl fun Y Z => ?_ | refine D.u rfl (fun h => by cases h) rfl rfl rfl rfl fun Y Z => ?_); simp only [zz, simprocAttr, -Int.reduceNatCast', -Int.reduceToNat, tt, q3q]; refine Z _ _ ?_; clear Z Y)
 all_goals (first | (refine D.sp q3q fun b a33 => ?_; cases b <;> (try exact nope a33)) | refine D.one trivial ?_)
 all_goals iterate 5 ((first | refine D.g rfl trivial rfl rfl fun Y Z => ?_ | refine D.y rfl trivial rfl rfl rfl rfl fun Y Z => ?_ | refine D.x rfl (fun h => by cases h) rfl rfl rfl rfl fun Y Z => ?_ | refine D.u rfl (fun h => by cases h) rfl rfl rfl rfl fun Y Z => ?_); simp only [zz, simprocAttr, -Int.reduceNatCast', -Int.reduceToNat, f1, m1, f2, f3, h01, h12, h22, h11, Int.le_refl, Int.toNat_zero, Nat.zero_lt_one, Nat.lt_add_one, List.length_cons, List.length_nil, List.getD_cons_zero, List.getD_cons_succ, Int.reduceLE, Int.reduceLT, Int.reduceToNat, Int.toNat_one, tt]; refine Z _ _ ?_; clear Z Y)
 all_goals ((first | refine D.y rfl (by first | rfl | (simp only [stC, ze, simprocAttr, -Int.reduceNatCast', -Int.reduceToNat, f1, m1, f2, f3, h01, h12, h22, h11, Int.le_refl, Int.toNat_zero, Nat.zero_lt_one, Nat.lt_add_one, List.length_cons, List.length_nil, List.getD_cons_zero, List.getD_cons_succ, Int.reduceLE, Int.reduceLT, Int.reduceToNat, Int.toNat_one]; first | done | rfl)) rfl rfl rfl rfl fun Y Z => ?_ | refine D.x rfl (fun _ => rfl) rfl rfl rfl rfl fun Y Z => ?_ | refine D.u rfl (fun _ => rfl) rfl rfl rfl rfl fun Y Z => ?_); simp only [zz, simprocAttr, -Int.reduceNatCast', -Int.reduceToNat, tt, f1, m1, f2, f3, h01, h12, h22, h11, Int.le_refl, Int.toNat_zero, Nat.zero_lt_one, Nat.lt_add_one, List.length_cons, List.length_nil, List.getD_cons_zero, List.getD_cons_succ, Int.reduceLE, Int.reduceLT, Int.reduceToNat, Int.toNat_one]; refine Z _ _ ?_; clear Z Y)
 all_goals iterate 3 ((first | refine D.y rfl trivial rfl rfl rfl rfl fun Y Z => ?_ | refine D.x rfl (fun h => by cases h) rfl rfl rfl rfl fun Y Z => ?_ | refine D.u rfl (fun h => by cases h) rfl rfl rfl rfl fun Y Z => ?_); simp only [zz, simprocAttr, -Int.reduceNatCast', -Int.reduceToNat, tt, f1, m1, f2, f3, h01, h12, h22, h11, Int.le_refl, Int.toNat_zero, Nat.zero_lt_one, Nat.lt_add_one, List.length_cons, List.length_nil, List.getD_cons_zero, List.getD_cons_succ, Int.reduceLE, Int.reduceLT, Int.reduceToNat, Int.toNat_one]; refine Z _ _ ?_; clear Z Y)
 all_goals have q4q := J12 f1 m1 f2 f3 h01 h12 h22 h11 @Int.le_refl @Int.toNat_zero @Nat.zero_lt_one (J6 @Nat.lt_add_one @List.length_cons.{0} @List.length_nil.{0} @List.getD_cons_zero.{0} @List.getD_cons_succ.{0} @Int.toNat_one)
 all_goals ((first | refine D.y rfl (by first | rfl | (simp only [stC, ze, simprocAttr, -Int.reduceNatCast', -Int.reduceToNat, f1, m1, f2, f3, h01, h12, h22, h11, Int.le_refl, Int.toNat_zero, Nat.zero_lt_one, Nat.lt_add_one, List.length_cons, List.length_nil, List.getD_cons_zero, List.getD_cons_succ, Int.reduceLE, Int.reduceLT, Int.reduceToNat, Int.toNat_one]; first | done | rfl)) rfl rfl rfl rfl fun Y Z => ?_ | refine D.x rfl (fun _ => rfl) rfl rfl rfl rfl fun Y Z => ?_ | refine D.u rfl (fun _ => rfl) rfl rfl rfl rfl fun Y Z => ?_); simp only [zz, simprocAttr, -Int.reduceNatCast', -Int.reduceToNat, tt, q4q]; refine Z _ _ ?_; clear Z Y)
 all_goals (first | (refine D.sp q4q fun b a44 => ?_; cases b <;> (try exact nope a44)) | refine D.one trivial ?_)
 all_goals iterate 4 ((first | refine D.g rfl trivial rfl rfl fun Y Z => ?_ | refine D.y rfl trivial rfl rfl rfl rfl fun Y Z => ?_ | refine D.x rfl (fun h => by cases h) rfl rfl rfl rfl fun Y Z => ?_ | refine D.u rfl (fun h => by cases h) rfl rfl rfl rfl fun Y Z => ?_); simp only [zz, simprocAttr, -Int.reduceNatCast', -Int.reduceToNat, f1, m1, f2, f3, h01, h12, h22, h11, Int.le_refl, Int.toNat_zero, Nat.zero_lt_one, Nat.lt_add_one, List.length_cons, List.length_nil, List.getD_cons_zero, List.getD_cons_succ, Int.reduceLE, Int.reduceLT, Int.reduceToNat, Int.toNat_one, tt]; refine Z _ _ ?_; clear Z Y)
 all_goals iterate 2 ((first | refine D.y rfl (by first | rfl | (simp only [stC, ze, simprocAttr, -Int.reduceNatCast', -Int.reduceToNat, f1, m1, f2, f3, h01, h12, h22, h11, Int.le_refl, Int.toNat_zero, Nat.zero_lt_one, Nat.lt_add_one, List.length_cons, List.length_nil, List.getD_cons_zero, List.getD_cons_succ, Int.reduceLE, Int.reduceLT, Int.reduceToNat, Int.toNat_one]; first | done | rfl)) rfl rfl rfl rfl fun Y Z => ?_ | refine D.x rfl (fun _ => rfl) rfl rfl rfl rfl fun Y Z => ?_ | refine D.u rfl (fun _ => rfl) rfl rfl rfl rfl fun Y Z => ?_); simp only [zz, simprocAttr, -Int.reduceNatCast', -Int.reduceToNat, tt, f1, m1, f2, f3, h01, h12, h22, h11, Int.le_refl, Int.toNat_zero, Nat.zero_lt_one, Nat.lt_add_one, List.length_cons, List.length_nil, List.getD_cons_zero, List.getD_cons_succ, Int.reduceLE, Int.reduceLT, Int.reduceToNat, Int.toNat_one]; refine Z _ _ ?_; clear Z Y)
 all_goals (first | (refine D.y rfl trivial rfl rfl rfl rfl fun Y Z => ?_; simp only [zz, simprocAttr, -Int.reduceNatCast', -Int.reduceToNat, f1, m1, f2, f3, h01, h12, h22, h11, Int.le_refl, Int.toNat_zero, Nat.zero_lt_one, Nat.lt_add_one, List.length_cons, List.length_nil, List.getD_cons_zero, List.getD_cons_succ, Int.reduceLE, Int.reduceLT, Int.reduceToNat, Int.toNat_one]; (refine ACalls.wkA (PCalls.eqto his ?_)) <;> (refine Z _ _ ?_; clear Z Y)) | refine D.one trivial ?_)
 all_goals iterate 2 (refine D.g rfl trivial rfl rfl fun Y Z => ?_; simp only [zz, simprocAttr, -Int.reduceNatCast', -Int.reduceToNat, f1, m1, f2, f3, h01, h12, h22, h11, Int.le_refl, Int.toNat_zero, Nat.zero_lt_one, Nat.lt_add_one, List.length_cons, List.length_nil, List.getD_cons_zero, List.getD_cons_succ, Int.reduceLE, Int.reduceLT, Int.reduceToNat, Int.toNat_one]; refine Z _ _ ?_; clear Z Y)
 all_goals (refine D.nil ?_; apply_assumption)
 refine AW.ret ?_
 all_goals simp only [zs, simprocAttr]
 all_goals exact fn1
theorem imm_list {α : Type} {f : α → List V} {l : List α} (h : ∀ x ∈ l, ∀ v : V, v ∈ f x → Imm v) : Imm (.sl (l.map f)) := .sl fun e he v hv => by
 obtain ⟨x, hx, rfl⟩ := List.mem_map.1 he
 exact h x hx v hv
theorem imm_attr (a : Attr) : ∀ v : V, v ∈ encAttr a → Imm v := fun v hv => by simp only [encAttr, List.mem_cons, List.not_mem_nil, or_false] at hv; rcases hv with rfl | rfl | rfl | rfl <;> exact .c _
theorem imm_ev (a : Ev) : ∀ v : V, v ∈ encEv a → Imm v := fun v hv => by
 simp only [encEv, List.mem_cons, List.not_mem_nil, or_false] at hv
 rcases hv with rfl | rfl | rfl | rfl | rfl
 ·exact .c _
 ·exact .c _
 ·exact .c _
 ·exact .c _
 ·exact imm_list fun x _ => imm_attr x
theorem imm_bd (b : Bd) : ∀ v : V, v ∈ encBd b → Imm v := fun v hv => by
 simp only [encBd, List.mem_cons, List.not_mem_nil, or_false] at hv
 rcases hv with rfl | rfl | rfl | rfl | rfl | rfl
 ·exact .c _
 ·exact .c _
 ·exact .c _
 ·exact .c _
 ·exact .c _
 ·exact imm_list fun x _ => imm_attr x
theorem imm_cnd (c : Cnd) : ∀ v : V, v ∈ encC c → Imm v := fun v hv => by
 simp only [encC, encO, List.mem_cons, List.not_mem_nil, or_false, List.cons_append, List.nil_append] at hv
 rcases hv with rfl | rfl | rfl | rfl | rfl | rfl | rfl | rfl | rfl | rfl | rfl <;> exact .c _
theorem imm_nd : ∀ n : Nd, ∀ v : V, v ∈ encNd n → Imm v := Nd.ind fun n ih v hv => by
 rw [encNd_eq] at hv
 simp only [List.mem_cons, List.not_mem_nil, or_false] at hv
 rcases hv with rfl | rfl | rfl | rfl | rfl
 ·exact .c _
 ·exact .c _
 ·exact .c _
 ·exact imm_list fun x _ => imm_cnd x
 ·exact imm_list ih
theorem imm_pat (p : Pat) : ∀ v : V, v ∈ encPat p → Imm v := fun v hv => by
 simp only [encPat, List.mem_cons, List.not_mem_nil, or_false] at hv
 rcases hv with rfl | rfl | rfl | rfl | rfl | rfl | rfl | rfl
 ·exact .c _
 ·exact .c _
 ·exact .c _
 ·exact .c _
 ·exact .c _
 ·exact imm_list fun x _ => imm_cnd x
 ·exact imm_list fun x _ => imm_nd x
 ·exact imm_list fun x _ => imm_cnd x
theorem imm_cap {cells : List V} (h : ∀ v : V, v ∈ cells → Imm v) : Imm (cap cells) := .ip fun e he v hv => by
 rw [List.mem_singleton.1 he] at hv; exact h v hv
theorem imm_evs (evs : List Ev) : ∀ v : V, v ∈ [(.sl (evs.map encEv) : V)] → Imm v := fun v hv => by rw [List.mem_singleton.1 hv]; exact imm_list fun x _ => imm_ev x
def partA (l : List Bd) : V := .agg (encP l)
theorem imm_partA (l : List Bd) : Imm (partA l) := .agg fun v hv => by rw [encP, List.mem_singleton] at hv; rw [hv]; exact imm_list fun x _ => imm_bd x
def walkC (p : Pat) (evs : List Ev) : List V := [cap (encPat p), cap [.sl (evs.map encEv)]]
theorem imm_walk (p : Pat) (evs : List Ev) : ∀ v : V, v ∈ walkC p evs → Imm v := fun v hv => by
 simp only [walkC, List.mem_cons, List.not_mem_nil, or_false] at hv
 rcases hv with rfl | rfl
 ·exact imm_cap (imm_pat p)
 ·exact imm_cap (imm_evs evs)
theorem iter_walk (p : Pat) (hp : okPat p) (evs : List Ev) (hel : evs.length < 4611686018427387904) (heo : ∀ e ∈ evs, okE e) : Iter Tryz.prog 58 (walkC p evs) ((allOut p (nodeOut p.node evs (p.node.denP evs))).1.map partA) := by
  have hall := All_P p hp evs hel heo
  generalize allOut p (nodeOut p.node evs (p.node.denP evs)) = o at hall ⊢
  obtain ⟨rows, eo⟩ := o
  show Iter Tryz.prog 58 (walkC p evs) (rows.map partA)
  refine ⟨Tryz.call58, fun l W0 I0 cv J Jx hva hIlt hJ hJx hround h0 => ?_⟩
  refine callsIn_of_wp (F := Fence.wide) (n := 0) Tryz.func58 rfl trivial (wpIn_wide.2 ?_)
  have hcv : cv.length = 2 := hva.1.symm
  have hb := SR.itBegin (n := 25) (k := 22) (W := W0) (I := I0) (args := .fn (.yield l) [] [] :: walkC p evs) (xs := .func (.yield l) #[] #[] :: cv)
    (VAs.cons (.fn (xs := []) (ys := []) rfl (fun i v x h => by cases h) rfl (fun i v x h => by cases h)) hva) (by simp [walkC]) (by simp [hcv]) (hIlt 0 I0 W0 h0)
  have eargs : (#[Value.func (.yield l) #[] #[]] ++ (⟨cv⟩ : Array Value)) ++ Array.replicate (Tryz.f58.ntmps - (#[Value.func (.yield l) #[] #[]] ++ (⟨cv⟩ : Array Value)).size) undef = (⟨Value.func (.yield l) #[] #[] :: cv⟩ : Array Value) ++ Array.replicate 22 undef := by
    have : Tryz.f58.ntmps = 25 := Tryz.ntmps58
    rw [this]; simp [hcv]
  rw [eargs]
  clear eargs
  have hJ0 := h0
  let R : Ending → World → Prop := fun e W' => (∃ v, e = .returned v) ∧ ((∃ I, J (rows.map partA).length I W') ∨ Jx W')
  have fin : ∀ {B : Base} {cx : Cx} {s : St} {σ : Hp} {a : Act} {w : World}, B.nd = true → SR B 25 cx s σ a w → ((∃ I, J (rows.map partA).length I w) ∨ Jx w) → a.defers = [] ∧ ∃ v, (results Tryz.f58 a.tmps).run Tryz.prog w = .ok v w ∧ R (.returned v) w := fun hnd h hj => by
    obtain ⟨v, hv⟩ := h.nothing Tryz.results58
    exact ⟨h.nd hnd, v, hv, ⟨v, rfl⟩, hj⟩
  rw [encPat] at hall
  refine wp_seq (wp_mono ((wpIn_wide (n := 0)).1 (it_region hb rfl (K := fun s σ => OwnP Hp.empty rows (s.t 4) σ ∧ s.t 0 = .fn (.yield l) [] [] ∧ rows.length ≤ 4096) ?_)) ?_)
  · skip
    iterate 2 (refine S.g rfl rfl fun Y Z => ?_; simp only [zz, simprocAttr, -Int.reduceNatCast', -Int.reduceToNat, tt, walkC, cap, encPat, List.getD_cons_zero, List.getD_cons_succ]; refine Z _ _ ?_; clear Z Y)
    all_goals (refine S.g rfl rfl fun Y Z => ?_; simp only [zz, simprocAttr, -Int.reduceNatCast', -Int.reduceToNat, walkC, cap, encPat, List.getD_cons_zero, List.getD_cons_succ]; (refine ACalls.to hall ?_; rintro _ σ1 ⟨u, rfl, hown, hok, hlen⟩) <;> (refine Z _ _ ?_; clear Z Y))
    all_goals iterate 5 (refine S.g rfl rfl fun Y Z => ?_; simp only [zz, simprocAttr, -Int.reduceNatCast', -Int.reduceToNat, walkC, cap, encPat, List.getD_cons_zero, List.getD_cons_succ]; refine Z _ _ ?_; clear Z Y)
    all_goals refine S.nil ?_
    all_goals simp only [ze, simprocAttr, walkC, cap, encPat, List.getD_cons_zero, List.getD_cons_succ]
    exact ⟨hown, hlen⟩
  rintro e a1 w1 hq
  cases e with
  | normal => ?_
  | _ => exact hq.elim
  obtain ⟨cx1, s1, σ1, h1, hown, e0, hlen0⟩ := hq
  obtain ⟨cx1, s1, h1, e0, e4⟩ : ∃ cx1 s1, SR (Base.it (Cx.im I0) W0) 25 cx1 s1 Hp.empty a1 w1 ∧ s1.t 0 = .fn (.yield l) [] [] ∧ s1.t 4 = .sl (rows.map encP) := by
    rcases hown with ⟨h4, hr, rfl⟩ | ⟨k, h4, _, rfl⟩
    · exact ⟨cx1, s1, h1, e0, by rw [h4, hr]; rfl⟩
    · obtain ⟨cx', h2⟩ := h1.freeze (k := k) (T := (40, 1)) (es := rows.map encP) (by simp [hpP])
      have hem : (hpP Hp.empty k rows).setGr k none = Hp.empty := by simp [hpP]
      rw [hem] at h2
      exact ⟨cx', _, h2, by rw [St.fz_t, e0]; rfl, by rw [St.fz_t, h4]; simp [fzV, fz1]⟩
  refine wp_seq (wp_mono ((wpIn_wide (n := 0)).1 (it_region h1 rfl (K := fun s σ => σ = Hp.empty ∧ s.t 0 = .fn (.yield l) [] [] ∧ s.t 14 = .sl (rows.map encP) ∧ s.t 15 = .c (.int .i64 (rows.length : Nat)) ∧ s.t 16 = .c (.int .i64 (0 : Nat))) ?_)) ?_)
  · skip
    iterate 3 refine S.one (J3 e0 e4 @List.length_map.{0,0}) ?_
    refine S.nil ?_
    simp only [ze, simprocAttr, e0, e4, List.length_map]
    all_goals exact fn1
  rintro e a1 w1 hq
  cases e with
  | normal => ?_
  | _ => exact hq.elim
  obtain ⟨cx1, s1, σ1, h1, rfl, e0, e5, e6, e7⟩ := hq
  obtain ⟨hN, hM⟩ := h1.newer rfl
  have hJ1 := hJ 0 I0 W0 cx1.I w1 h0 hN hM
  have h2 := h1.again (W' := w1) (I' := cx1.I) rfl (fun g hg => ⟨hg, rfl⟩) (fun g hg => h1.heap.ilt g hg)
  clear hb h0 hJ0 hM hN
  refine wp_block ?_
  refine wp_loop_rel (fun m a w => ∃ i cx s, m = rows.length - i ∧ i ≤ rows.length ∧ J i cx.I w ∧ SR (Base.it cx w) 25 cx s Hp.empty a w ∧ s.t 0 = .fn (.yield l) [] [] ∧ s.t 14 = .sl (rows.map encP) ∧ s.t 15 = .c (.int .i64 (rows.length : Nat)) ∧ s.t 16 = .c (.int .i64 (i : Nat)))
    ⟨rows.length, 0, cx1, _, rfl, Nat.zero_le _, hJ1, h2, by simp [keepV, e0], by simp [keepV, e5], by simp [keepV, e6], by simp [keepV, e7]⟩ ?_
  clear h2 hJ1 h1 e0 e5 e6 e7 hva hcv
  rintro m a w ⟨i, cx, s, hm, hi, hji, h, e0, e5, e6, e7⟩
  refine wp_seq (wp_mono ((wpIn_wide (n := 0)).1 (it_region h rfl (K := fun s' σ' => σ' = Hp.empty ∧ s'.t 0 = .fn (.yield l) [] [] ∧ s'.t 14 = .sl (rows.map encP) ∧ s'.t 15 = .c (.int .i64 (rows.length : Nat)) ∧ s'.t 16 = .c (.int .i64 (i : Nat)) ∧ s'.t 17 = .c (.bool (decide (i < rows.length)))) ?_)) ?_)
  · skip
    refine S.one (J4 e0 e5 e6 e7) ?_
    refine S.nil ?_
    simp only [ze, simprocAttr, e0, e5, e6, e7]
    done
  rintro e a2 w2 hq
  cases e with
  | normal => ?_
  | _ => exact hq.elim
  obtain ⟨cx2, s2, σ2, h2, rfl, f0, f5, f6, f7, f8⟩ := hq
  obtain ⟨hN, hM⟩ := h2.newer rfl
  have hj2 := hJ i cx.I w cx2.I w2 hji hN hM
  have hc8 := h2.tr (.tmp 17)
  simp only [ev, f8] at hc8
  refine wp_seq (wp_cond_split hc8.c_eq (fun hc => wp_skip ?_) (fun hc => wp_exit ?_))
  · have hin := of_decide_eq_true hc
    obtain ⟨x, hx, hxm, hxe, _⟩ := at_get encP hin
    have hxs : (rows.map partA)[i]? = some (partA x) := by simp [hx]
    have hwi : IntKind.i64.wrap ((i : Int) + 1) = ((i + 1 : Nat) : Int) := wadd1 (a := i) (by
      omega)
    refine wp_seq (wp_block ?_)
    refine wp_seq (wp_mono ((wpIn_wide (n := 0)).1 (it_region h2 rfl (K := fun s' σ' => σ' = Hp.empty ∧ s'.t 0 = .fn (.yield l) [] [] ∧ s'.t 14 = .sl (rows.map encP) ∧ s'.t 15 = .c (.int .i64 (rows.length : Nat)) ∧ s'.t 16 = .c (.int .i64 (i : Nat)) ∧ s'.t 7 = .lp 7 0 ∧ s'.l 7 = some [.sl (x.map encBd)]) ?_)) ?_)
    · skip
      iterate 4 refine S.one (J9 f0 f5 f6 f7 hin hxe @encP.eq_1 @List.length_singleton.{0} @List.length_map.{0,0}) ?_
      refine S.nil ?_
      simp only [ze, simprocAttr, f0, f5, f6, f7, hin, hxe, encP, List.length_singleton, List.length_map]
      done
    rintro e a3 w3 hq
    cases e with
    | normal => ?_
    | _ => exact hq.elim
    obtain ⟨cx3, s3, σ3, h3, rfl, g0, g5, g6, g7, g4, l4⟩ := hq
    refine wp_seq ((wpIn_wide (n := 0)).1 (wpIn_region ?_))
    refine it_part 2 0 2 rfl (by decide) h3 rfl (K := fun s' σ' => σ' = Hp.empty ∧ s'.t 20 = .fn (.yield l) [] [] ∧ s'.t 21 = partA x ∧ s'.t 0 = .fn (.yield l) [] [] ∧ s'.t 14 = .sl (rows.map encP) ∧ s'.t 15 = .c (.int .i64 (rows.length : Nat)) ∧ s'.t 16 = .c (.int .i64 (i : Nat))) ?_ ?_
    · skip
      iterate 2 refine S.one (J6 g0 g5 g6 g7 g4 l4) ?_
      refine S.nil ?_
      simp only [ze, simprocAttr, g0, g5, g6, g7, g4, l4]
      exact rfl
    rintro a4 w4 ⟨cx4, s4, σ4, h4, rfl, k11, k13, k0, k5, k6, k7⟩
    obtain ⟨hN4, hM4⟩ := h4.newer rfl
    have hj4 := hJ i cx.I w cx4.I w4 hji hN4 hM4
    have h11 := h4.tr (.tmp 20)
    have h13 := h4.tr (.tmp 21)
    simp only [ev, k11] at h11
    simp only [ev, k13] at h13
    have hfv : a4.eval (.tmp 20) = .func (.yield l) #[] #[] := by
      generalize a4.eval (.tmp 20) = y at h11
      cases h11 with
      | v h11 =>
        cases h11 with
        | @fn _ _ _ xs1 ys1 hn _ hm _ =>
          obtain rfl : xs1 = [] := List.eq_nil_of_length_eq_zero hn.symm
          obtain rfl : ys1 = [] := List.eq_nil_of_length_eq_zero hm.symm
          rfl
    have hxv : VR w4 cx4 (partA x) (a4.eval (.tmp 21)) := by
      generalize a4.eval (.tmp 21) = y at h13
      cases h13 with
      | v h13 => exact h13
    refine it_yield (i := 2) (q := 1) (f := .tmp 20) (x := .tmp 21) rfl rfl rfl hfv rfl (hround i cx4.I w4 (partA x) _ hj4 hxs (hxv.toIm (imm_partA x))) ?_
    rintro e w5 (⟨rfl, I5, hj5, hsame⟩ | ⟨rfl, hx5⟩)
    · refine ⟨true, rfl, ?_⟩
      have h5 := (h4.again (W' := w5) (I' := I5) rfl hsame (fun g hg => hIlt (i + 1) I5 w5 hj5 g hg)).put (d := 22) (v := .c (.bool true)) (by omega) (.v (.c _))
      have q0 : ((⟨fun t => keepV (s4.t t), fun _ => none⟩ : St).put 22 (.c (.bool true))).t 0 = .fn (.yield l) [] [] := by simp [St.put, keepV, k0]
      have q5 : ((⟨fun t => keepV (s4.t t), fun _ => none⟩ : St).put 22 (.c (.bool true))).t 14 = .sl (rows.map encP) := by simp [St.put, keepV, k5]
      have q6 : ((⟨fun t => keepV (s4.t t), fun _ => none⟩ : St).put 22 (.c (.bool true))).t 15 = .c (.int .i64 (rows.length : Nat)) := by simp [St.put, keepV, k6]
      have q7 : ((⟨fun t => keepV (s4.t t), fun _ => none⟩ : St).put 22 (.c (.bool true))).t 16 = .c (.int .i64 (i : Nat)) := by simp [St.put, keepV, k7]
      have q14 : ((⟨fun t => keepV (s4.t t), fun _ => none⟩ : St).put 22 (.c (.bool true))).t 22 = .c (.bool true) := by simp [St.put]
      generalize (⟨fun t => keepV (s4.t t), fun _ => none⟩ : St).put 22 (.c (.bool true)) = s5 at h5 q0 q5 q6 q7 q14
      refine it_part 1 3 0 rfl (by decide) h5 rfl (K := fun s' σ' => σ' = Hp.empty ∧ s'.t 0 = .fn (.yield l) [] [] ∧ s'.t 14 = .sl (rows.map encP) ∧ s'.t 15 = .c (.int .i64 (rows.length : Nat)) ∧ s'.t 16 = .c (.int .i64 (i : Nat)) ∧ s'.t 23 = .c (.bool false)) ?_ ?_
      · skip
        refine S.one (J5 q0 q5 q6 q7 q14) ?_
        refine S.nil ?_
        simp only [ze, simprocAttr, q0, q5, q6, q7, q14]
        done
      rintro a6 w6 ⟨cx6, s6, σ6, h6, rfl, r0, r5, r6, r7, r15⟩
      obtain ⟨hN6, hM6⟩ := h6.newer rfl
      have hj6 := hJ (i + 1) I5 w5 cx6.I w6 hj5 hN6 hM6
      have hc15 := h6.tr (.tmp 23)
      simp only [ev, r15] at hc15
      refine wp_cond_split hc15.c_eq (fun hc => by cases hc) (fun _ => wp_skip ?_)
      have h7 := h6.again (W' := w6) (I' := cx6.I) rfl (fun g hg => ⟨hg, rfl⟩) (fun g hg => h6.heap.ilt g hg)
      refine wp_mono ((wpIn_wide (n := 0)).1 (it_region h7 rfl (K := fun s' σ' => σ' = Hp.empty ∧ s'.t 0 = .fn (.yield l) [] [] ∧ s'.t 14 = .sl (rows.map encP) ∧ s'.t 15 = .c (.int .i64 (rows.length : Nat)) ∧ s'.t 16 = .c (.int .i64 (i + 1 : Nat))) ?_)) ?_
      · skip
        iterate 2 (refine S.g rfl rfl fun Y Z => ?_; simp only [zz, reduceIte, Nat.reduceEqDiff, Nat.reduceAdd, r0, r5, r6, r7, hwi, keepV]; refine Z _ _ ?_; clear Z Y)
        all_goals refine S.nil ?_
        all_goals simp only [ze, simprocAttr, r0, r5, r6, r7, hwi, keepV]
        done
      rintro e a7 w7 hq
      cases e with
      | normal => ?_
      | _ => exact hq.elim
      obtain ⟨cx7, s7, σ7, h8, rfl, u0, u5, u6, u7⟩ := hq
      obtain ⟨hN7, hM7⟩ := h8.newer rfl
      have hj7 := hJ (i + 1) cx6.I w6 cx7.I w7 hj6 hN7 hM7
      have h9 := h8.again (W' := w7) (I' := cx7.I) rfl (fun g hg => ⟨hg, rfl⟩) (fun g hg => h8.heap.ilt g hg)
      exact ⟨rows.length - (i + 1), by omega, i + 1, cx7, _, rfl, by omega, hj7, h9, by simp [keepV, u0], by simp [keepV, u5], by simp [keepV, u6], by simp [keepV, u7]⟩
    · refine ⟨false, rfl, ?_⟩
      have h5 := (h4.stop w5 rfl).put (d := 22) (v := .c (.bool false)) (by omega) (.v (.c _))
      have q14 : ((⟨fun t => keepC (s4.t t), fun _ => none⟩ : St).put 22 (.c (.bool false))).t 22 = .c (.bool false) := by simp [St.put]
      generalize (⟨fun t => keepC (s4.t t), fun _ => none⟩ : St).put 22 (.c (.bool false)) = s5 at h5 q14
      refine it_part 1 3 0 rfl (by decide) h5 rfl (K := fun s' σ' => σ' = Hp.empty ∧ s'.t 23 = .c (.bool true)) ?_ ?_
      · skip
        refine S.one q14 ?_
        refine S.nil ?_
        simp only [ze, simprocAttr, q14]
        done
      rintro a6 w6 ⟨cx6, s6, σ6, h6, rfl, r15⟩
      obtain ⟨hN6, hM6⟩ := h6.newer rfl
      have hx6 := hJx (fun _ => False) w5 (fun g => False ∨ False) w6 hx5 hN6 ⟨fun _ h => h.elim, fun _ h => (by rcases h with h | h <;> exact h.elim)⟩
      have hc15 := h6.tr (.tmp 23)
      simp only [ev, r15] at hc15
      refine wp_cond_split hc15.c_eq (fun _ => wp_ret ?_) (fun hc => by cases hc)
      exact fin rfl h6 (.inr hx6)
  · have hin := of_decide_eq_false hc
    have hl : i = (rows.map partA).length := by simp; omega
    rw [hl] at hj2
    exact fin rfl h2 (.inl ⟨_, hj2⟩)
theorem Walk_spec (p : Pat) (evs : List Ev) : PCalls Tryz.prog 32 [.agg (encPat p), .sl (evs.map encEv)] (fun v => v = .fn (.func 58) [] (walkC p evs)) := by
 have hE := (encNd_eq p.node).symm
 refine PCalls.intro Tryz.call32 Tryz.func32 rfl Tryz.ntmps32 Tryz.results32 (by simp) ?_
 refine AW.seq_j (fun s' σ' => σ' = Hp.empty ∧ s'.t 2 = .lp 2 0 ∧ s'.l 2 = some (encPat p) ∧ s'.t 3 = .lp 3 0 ∧ s'.l 3 = some [.sl (evs.map encEv)]) ?_ ?_
 ·skip
  refine AW.reg0 (S.rn @encPat.eq_1 ?_)
  simp only [ze, simprocAttr, encPat]
  all_goals exact fn1
 rintro s σ ⟨rfl, e2, l2, e3, l3⟩
 refine AW.hushBox l2 (by simp [encPat]) ?_
 have f2 : (s.bx 2 (encPat p)).t 2 = cap (encPat p) := by simp [e2, bxV, cap]
 have f3 : (s.bx 2 (encPat p)).t 3 = .lp 3 0 := by simp [e3, bxV]
 have g3 : (s.bx 2 (encPat p)).l 3 = some [.sl (evs.map encEv)] := by simp [l3]
 generalize s.bx 2 (encPat p) = s at *
 refine AW.hushBox g3 (by simp) ?_
 have h2 : (s.bx 3 [.sl (evs.map encEv)]).t 2 = cap (encPat p) := by simp [f2, bxV, cap]
 have h3 : (s.bx 3 [.sl (evs.map encEv)]).t 3 = cap [.sl (evs.map encEv)] := by simp [f3, bxV, cap]
 generalize s.bx 3 [.sl (evs.map encEv)] = s at *
 all_goals refine AW.sr (J3 h2 h3 @cap_ok) ?_
 refine AW.ret ?_
 all_goals simp only [zs, simprocAttr]
 all_goals exact fn1
theorem Many_spec (p : Pat) (hp : okPat p) (evs : List Ev) (hel : evs.length < 4611686018427387904) (heo : ∀ e ∈ evs, okE e) (l : List (List Bd)) (hl : (allOut p (nodeOut p.node evs (p.node.denP evs))).1 = l) (hll : l.length ≤ 4096) :
  ACalls Tryz.prog 30 [.agg (encPat p), .sl (evs.map encEv)] Hp.empty (fun v _ => v = .c (.int .i64 (l.length : Nat))) := by
 have hit := iter_walk p hp evs hel heo
 rw [hl] at hit
 have hwalk := Walk_spec p evs
 rw [encPat] at hwalk
 refine ACalls.intro Tryz.call30 Tryz.func30 rfl Tryz.ntmps30 Tryz.results30 (by simp) ?_
 refine AW.sr @encPat.eq_1 ?_
 refine AW.seq_k fun K2 h2 => ?_
 refine AW.region (T := { hp := fun d => d == 5 }) (fun _ _ h => by cases h) rfl ?_
 all_goals (refine S.g rfl rfl fun Y Z => ?_; simp only [zz, simprocAttr, -Int.reduceNatCast', -Int.reduceToNat, tt, isMap_c, List.length_cons, List.length_nil, true_and, List.drop_succ_cons, List.drop_nil]; intro r hr <;> (refine Z _ _ ?_; clear Z Y))
 all_goals (refine S.g rfl rfl fun Y Z => ?_; simp only [zz, reduceIte, Nat.reduceEqDiff, Nat.reduceLT, Nat.reduceLeDiff, Nat.reduceAdd, reduceCtorEq, Nat.reduceMul, tt, isMap_c, List.length_cons, List.length_nil, true_and, List.drop_succ_cons, List.drop_nil]; refine Z _ _ ?_; clear Z Y)
 all_goals (refine S.nil ?_; simp only [ze, simprocAttr, isMap_c, List.length_cons, List.length_nil, true_and, List.drop_succ_cons, List.drop_nil]; apply_assumption)
 refine AW.seq_k fun K3 h3 => ?_
 refine AW.seq_j (fun s' σ' => σ' = Hp.empty.setObj r (some [.c (.int .i64 (0 : Nat))]) ∧ s'.t 5 = .c (.pointer (some ⟨r, 0, none⟩)) ∧ s'.t 8 = .fn (.func 58) [] (walkC p evs)) ?_ ?_
 ·skip
  refine AW.reg0 ?_
  iterate 2 refine S.one trivial ?_
  refine S.cl trivial (hwalk) ?_
  all_goals refine S.nil ?_
  all_goals simp only [ze, simprocAttr]
  all_goals exact fn1
 rintro s σ ⟨rfl, e5, e8⟩
 refine AW.block ?_   -- 0
 refine AW.rangeFunc (f := 58) (caps := walkC p evs) (xs := l.map partA) (by simp [ev, e8]) hit (imm_walk p evs) (by decide) (fun i σ' => σ' = Hp.empty.setObj r (some [.c (.int .i64 (i : Nat))])) (fun _ _ => False) rfl ?_ ?_ (fun _ h => h.elim) (fun _ _ h => h.elim)
 ·intro q i v σ4 hv hri
  subst hri
  have hil : i < l.length := by
   have := (List.getElem?_eq_some_iff.1 hv).1
   simpa using this
  have hw := wadd1 (a := i) (by omega)
  have f5 : ((plainS s).put 9 v).t 5 = .c (.pointer (some ⟨r, 0, none⟩)) := by simp [plainS, keepV, e5]
  generalize (plainS s).put 9 v = s1 at f5 ⊢
  refine AWR.skip ?_
  refine ⟨rfl, ?_⟩
  refine AWR.block ?_
  refine AWR.reg0 ⟨rfl, ?_⟩
  iterate 3 (refine S.g rfl rfl fun Y Z => ?_; simp only [zz, reduceIte, Nat.reduceEqDiff, Nat.reduceLT, Nat.reduceLeDiff, Nat.reduceAdd, reduceCtorEq, Nat.reduceMul, tt, f5, isMap_c, List.getD_cons_zero, hw, List.length_cons, List.length_nil, true_and, List.drop_succ_cons, List.drop_nil, Hp.setObj_obj]; refine Z _ _ ?_; clear Z Y)
  all_goals refine S.nil ?_
  all_goals simp only [ze, simprocAttr, f5, isMap_c, List.getD_cons_zero, hw, List.length_cons, List.length_nil, true_and, List.drop_succ_cons, List.drop_nil, Hp.setObj_obj]
  exact rfl
 ·intro σ4 hri
  have hlm : (l.map partA).length = l.length := by simp
  rw [hlm] at hri
  subst hri
  have f5 : (plainS s).t 5 = .c (.pointer (some ⟨r, 0, none⟩)) := by simp [plainS, keepV, e5]
  generalize plainS s = s1 at f5 ⊢
  simp only [zs, simprocAttr]
  all_goals apply_assumption
  refine AW.sr (J4 f5 @isMap_c @List.getD_cons_zero.{0} Hp.setObj_obj) ?_
  refine AW.ret ?_
  simp only [zs, simprocAttr]
  all_goals exact fn1
theorem isMap_sl (x : List (List V)) : isMap [.sl x] = false := rfl
structure TI (r4 r5 r6 r7 : Nat) (rows : List (List Bd)) (stop : Int) (i : Nat) (σ : Hp) : Prop where
  o4 : σ.obj r4 = some [.sl (rows.map encP)]
  o5 : σ.obj r5 = some [.c (.int .i64 stop)]
  o6 : σ.obj r6 = some [.c (.bool false)]
  o7 : σ.obj r7 = some [.c (.int .i64 (i : Nat))]
theorem tells_spec (p : Pat) (evs : List Ev) (rows : List (List Bd)) (stop : Int) (hit : Iter Tryz.prog 58 (walkC p evs) (rows.map partA)) (hr : rows.length ≤ 4096) (hok : ∀ x ∈ rows, okQ x) :
  PCalls Tryz.prog 31 [.fn (.func 58) [] (walkC p evs), .sl (rows.map encP), .c (.int .i64 stop)] (fun v => v = .c (.bool true)) := by
 refine ACalls.bare (R := fun v _ => v = .c (.bool true)) ?_ (fun v _ h => h)
 refine ACalls.intro Tryz.call31 Tryz.func31 rfl Tryz.ntmps31 Tryz.results31 (by simp) ?_
 refine AW.seq_k fun K1 h1 => ?_
 refine AW.region (T := { hp := fun d => d == 4 || d == 5 || d == 6 }) (fun _ _ h => by cases h) rfl ?_
 all_goals (refine S.g rfl rfl fun Y Z => ?_; simp only [zz, simprocAttr, -Int.reduceNatCast', -Int.reduceToNat, tt]; intro r4 hr4 <;> (refine Z _ _ ?_; clear Z Y))
 all_goals (refine S.g rfl rfl fun Y Z => ?_; simp only [zz, simprocAttr, -Int.reduceNatCast', -Int.reduceToNat, tt]; intro r5 hr5 <;> (refine Z _ _ ?_; clear Z Y))
 all_goals (refine S.g rfl rfl fun Y Z => ?_; simp only [zz, simprocAttr, -Int.reduceNatCast', -Int.reduceToNat, tt]; intro r6 hr6 <;> (refine Z _ _ ?_; clear Z Y))
 all_goals (refine S.nil ?_; simp only [ze, simprocAttr]; apply_assumption)
 refine AW.seq_k fun K2 h2 => ?_
 all_goals refine AW.region (T := { hp := fun d => d == 7 }) (fun _ _ h => by cases h) rfl ?_
 all_goals have q1q := J2 @isMap_c @true_and
 all_goals (refine S.g rfl rfl fun Y Z => ?_; simp only [zz, simprocAttr, -Int.reduceNatCast', -Int.reduceToNat, tt, q1q]; intro r7 hr7 <;> (refine Z _ _ ?_; clear Z Y))
 all_goals refine S.one q1q ?_
 all_goals (refine S.nil ?_; simp only [ze, simprocAttr, q1q]; apply_assumption)
 have n12 : r4 ≠ r5 := fun e => by rw [← e] at hr5; simp at hr5
 have n13 : r4 ≠ r6 := fun e => by rw [← e] at hr6; simp [n12] at hr6
 have n14 : r4 ≠ r7 := fun e => by rw [← e] at hr7; simp [n12, n13] at hr7
 have n23 : r5 ≠ r6 := fun e => by rw [← e] at hr6; simp at hr6
 have n24 : r5 ≠ r7 := fun e => by rw [← e] at hr7; simp [n23] at hr7
 have n34 : r6 ≠ r7 := fun e => by rw [← e] at hr7; simp at hr7
 have hri0 : TI r4 r5 r6 r7 rows stop 0 ((((Hp.empty.setObj r4 (some [.sl (rows.map encP)])).setObj r5 (some [.c (.int .i64 stop)])).setObj r6 (some [.c (.bool false)])).setObj r7 (some [.c (.int .i64 (0 : Int))])) :=
  ⟨by simp [n12, n13, n14], by simp [n23, n24], by simp [n34], by simp⟩
 clear hr4 hr5 hr6 hr7
 generalize (((Hp.empty.setObj r4 (some [.sl (rows.map encP)])).setObj r5 (some [.c (.int .i64 stop)])).setObj r6 (some [.c (.bool false)])).setObj r7 (some [.c (.int .i64 (0 : Int))]) = σ0 at hri0 ⊢
 refine AW.seq_j (fun s σ' => s.t 4 = .c (.pointer (some ⟨r4, 0, none⟩)) ∧ s.t 5 = .c (.pointer (some ⟨r5, 0, none⟩)) ∧ s.t 6 = .c (.pointer (some ⟨r6, 0, none⟩)) ∧ s.t 7 = .c (.pointer (some ⟨r7, 0, none⟩)) ∧ TI r4 r5 r6 r7 rows stop rows.length σ') ?_ ?_
 ·refine AW.seq_j (fun s σ' => s.t 4 = .c (.pointer (some ⟨r4, 0, none⟩)) ∧ s.t 5 = .c (.pointer (some ⟨r5, 0, none⟩)) ∧ s.t 6 = .c (.pointer (some ⟨r6, 0, none⟩)) ∧ s.t 7 = .c (.pointer (some ⟨r7, 0, none⟩)) ∧ s.t 9 = .fn (.func 58) [] (walkC p evs) ∧ σ' = σ0) ?_ ?_
  ·skip
   refine AW.reg0 (S.rn trivial ?_)
   simp only [ze, simprocAttr]
  rintro s σ' ⟨e4, e5, e6, e7, e9, rfl⟩
  refine AW.block ?_   -- 0
  refine AW.rangeFunc (f := 58) (caps := walkC p evs) (xs := rows.map partA) (by simp [ev, e9]) hit (imm_walk p evs) (by decide) (fun i σ' => TI r4 r5 r6 r7 rows stop i σ') (fun e σ' => e = .ret ∧ σ'.obj r6 = some [.c (.bool true)]) hri0 ?_ ?_ ?_ (fun _ _ h => by cases h.1)
  ·intro r i v σ4 hv hri
   obtain ⟨x, hx, rfl⟩ : ∃ x, rows[i]? = some x ∧ v = partA x := by
    rw [List.getElem?_map, Option.map_eq_some_iff] at hv
    obtain ⟨x, h, e⟩ := hv
    exact ⟨x, h, e.symm⟩
   have hxm := List.mem_of_getElem? hx
   have hil := (List.getElem?_eq_some_iff.1 hx).1
   have hxe : (rows.map encP).getD i [] = encP x := by rw [getD_map hil, (List.getElem?_eq_some_iff.1 hx).2]
   have f4 : ((plainS s).put 10 (partA x)).t 4 = .c (.pointer (some ⟨r4, 0, none⟩)) := by simp [plainS, keepV, e4]
   have f5 : ((plainS s).put 10 (partA x)).t 5 = .c (.pointer (some ⟨r5, 0, none⟩)) := by simp [plainS, keepV, e5]
   have f6 : ((plainS s).put 10 (partA x)).t 6 = .c (.pointer (some ⟨r6, 0, none⟩)) := by simp [plainS, keepV, e6]
   have f7 : ((plainS s).put 10 (partA x)).t 7 = .c (.pointer (some ⟨r7, 0, none⟩)) := by simp [plainS, keepV, e7]
   have f10 : ((plainS s).put 10 (partA x)).t 10 = .agg [.sl (x.map encBd)] := by simp [partA, encP]
   generalize (plainS s).put 10 (partA x) = s1 at f4 f5 f6 f7 f10 ⊢
   obtain ⟨o4, o5, o6, o7⟩ := hri
   have hxo := (hok x hxm).toL
   have hsx : PCalls Tryz.prog 23 [.agg [.sl (x.map encBd)], .agg [.sl (x.map encBd)]] (fun v => v = .c (.bool true)) := (rsame_part x x hxo.len hxo.ev).mono fun v hv => by rw [hv, allEq_refl eqBd_refl]
   have hw1 := wadd1 (a := i) (by omega)
   have hdg : decide ((i : Int) ≥ (rows.length : Int)) = false := by simp; omega
   refine AWR.reg0 ⟨rfl, ?_⟩
   iterate 2 refine S.one f10 ?_
   refine S.nil ?_
   simp only [ze, simprocAttr, f10]
   refine AWR.block ?_
   refine AWR.seq_k fun K2 k2 => ?_
   refine AWR.seq_k fun K3 k3 => ?_
   have hgo : ∀ s2 σ2, (σ2 = σ4 ∧ s2.t 23 = .c (.bool false) ∧ s2.t 5 = .c (.pointer (some ⟨r5, 0, none⟩)) ∧ s2.t 6 = .c (.pointer (some ⟨r6, 0, none⟩)) ∧ s2.t 7 = .c (.pointer (some ⟨r7, 0, none⟩))) → thenS K3 (thenS K2 (inBlockS 1 (roundS (fun σ' => TI r4 r5 r6 r7 rows stop (i + 1) σ') fun e σ' => e = .ret ∧ σ'.obj r6 = some [.c (.bool true)]))) .normal s2 σ2 := by
    rintro s2 σ2 ⟨rfl, g23, g5, g6, g7⟩
    refine k3 _ _ ?_
    refine AWR.cond (b := false) g23 (fun hc => by cases hc) (fun _ => ?_)
    refine AWR.skip ?_
    refine k2 _ _ ?_
    refine AWR.seq_k fun K4 k4 => ?_
    all_goals refine AWR.reg0 ⟨rfl, ?_⟩
    all_goals iterate 3 (refine S.g rfl rfl fun Y Z => ?_; simp only [zz, reduceIte, Nat.reduceEqDiff, Nat.reduceLT, Nat.reduceLeDiff, Nat.reduceAdd, reduceCtorEq, Nat.reduceMul, tt, g7, o7, isMap_c, List.getD_cons_zero, hw1, List.length_cons, List.length_nil, List.drop_succ_cons, List.drop_nil, true_and]; refine Z _ _ ?_; clear Z Y)
    all_goals refine S.nil ?_
    all_goals simp only [ze, simprocAttr, g7, o7, isMap_c, List.getD_cons_zero, hw1, List.length_cons, List.length_nil, List.drop_succ_cons, List.drop_nil, true_and]
    refine k4 _ _ ?_
    refine AWR.seq_k fun K5 k5 => ?_
    have hn57 : (r5 = r7) = False := eq_false n24
    all_goals refine AWR.reg0 ⟨rfl, ?_⟩
    all_goals have q2q := J7 g5 g7 o5 hn57 @if_false.{0} @isMap_c @List.getD_cons_zero.{0}
    all_goals iterate 3 refine S.one q2q ?_
    all_goals refine S.nil ?_
    all_goals simp only [ze, simprocAttr, q2q]
    refine k5 _ _ ?_
    refine AWR.cond (b := (((i + 1 : Nat) : Int) == stop)) (by simp [ev]) (fun _ => ?_) (fun _ => ?_)
    ·refine AWR.seq_k fun K6 k6 => ?_
     have hn67 : (r6 = r7) = False := eq_false n34
     refine AWR.reg0 ⟨rfl, ?_⟩
     (refine S.g rfl rfl fun Y Z => ?_; simp only [zz, reduceIte, Nat.reduceEqDiff, Nat.reduceLT, Nat.reduceLeDiff, Nat.reduceAdd, reduceCtorEq, Nat.reduceMul, tt, g6, o6, hn67, if_false, isMap_c, List.getD_cons_zero, List.length_cons, List.length_nil, List.drop_succ_cons, List.drop_nil, true_and]; refine Z _ _ ?_; clear Z Y)
     all_goals refine S.nil ?_
     all_goals simp only [ze, simprocAttr, g6, o6, hn67, if_false, isMap_c, List.getD_cons_zero, List.length_cons, List.length_nil, List.drop_succ_cons, List.drop_nil, true_and]
     refine k6 _ _ ?_
     refine AWR.ret ?_
     exact ⟨rfl, by simp⟩
    ·refine AWR.skip ?_
     exact ⟨by simp [n14, o4], by simp [n24, o5], by simp [n34, o6], by simp⟩
   refine AWR.drawF (T := { sd := fun d => d == 8 }) (fun _ _ h => by cases h) mixedO (.fork 0 (.st 1 2 (.st 2 0 (.st 3 0 (.st 4 0 (.fork3 5 (.fork 6 (.st 7 2 (.st 8 0 (.st 9 2 (.st 10 2 (.st 11 0 (.st 12 0 .nil)))))) 7 (.st 6 2 (.st 8 0 (.st 9 2 (.st 10 2 (.st 11 0 (.st 12 0 .nil))))))) 6 (.fork 5 (.st 7 2 (.st 8 0 (.st 9 2 (.st 10 2 (.st 11 0 (.st 12 0 .nil)))))) 7 (.st 8 0 (.fork 5 (.st 9 2 (.st 10 2 (.st 11 0 (.st 12 0 .nil)))) 9 (.st 5 2 (.st 10 2 (.st 11 0 (.st 12 0 .nil))))))) 7 (.fork 5 (.st 6 2 (.st 8 0 (.st 9 2 (.st 10 2 (.st 11 0 (.st 12 0 .nil)))))) 6 (.st 8 0 (.fork 5 (.st 9 2 (.st 10 2 (.st 11 0 (.st 12 0 .nil)))) 9 (.st 5 2 (.st 10 2 (.st 11 0 (.st 12 0 .nil)))))))))))) 1 (.st 2 0 (.st 0 2 (.st 3 0 (.st 4 0 (.fork3 5 (.fork 6 (.st 7 2 (.st 8 0 (.st 9 2 (.st 10 2 (.st 11 0 (.st 12 0 .nil)))))) 7 (.st 6 2 (.st 8 0 (.st 9 2 (.st 10 2 (.st 11 0 (.st 12 0 .nil))))))) 6 (.fork 5 (.st 7 2 (.st 8 0 (.st 9 2 (.st 10 2 (.st 11 0 (.st 12 0 .nil)))))) 7 (.st 8 0 (.fork 5 (.st 9 2 (.st 10 2 (.st 11 0 (.st 12 0 .nil)))) 9 (.st 5 2 (.st 10 2 (.st 11 0 (.st 12 0 .nil))))))) 7 (.fork 5 (.st 6 2 (.st 8 0 (.st 9 2 (.st 10 2 (.st 11 0 (.st 12 0 .nil)))))) 6 (.st 8 0 (.fork 5 (.st 9 2 (.st 10 2 (.st 11 0 (.st 12 0 .nil)))) 9 (.st 5 2 (.st 10 2 (.st 11 0 (.st 12 0 .nil))))))))))))) rfl (by kernel_rfl) (by kernel_rfl) ?_
   all_goals (try first | refine F.fork ?_ ?_ | refine F.fork3 ?_ ?_ ?_)
   all_goals have q3q := J12 f4 f5 f6 f7 o4 o7 @isMap_c isMap_sl @List.getD_cons_zero.{0} @List.length_map.{0,0} hdg (J3 hil hxe @encP.eq_1)
   all_goals first | (refine F.g rfl trivial rfl rfl fun Y Z => ?_; simp only [zz, simprocAttr, -Int.reduceNatCast', -Int.reduceToNat, tt, q3q]; refine Z _ _ ?_; clear Z Y) | (refine F.g rfl trivial rfl rfl fun Y Z => ?_; simp only [zz, simprocAttr, -Int.reduceNatCast', -Int.reduceToNat, tt, q3q]; refine Z _ _ ?_; clear Z Y)
   all_goals have q4q := J12 f4 f5 f6 f7 o4 o7 @isMap_c isMap_sl @List.getD_cons_zero.{0} @List.length_map.{0,0} hdg (J3 hil hxe @encP.eq_1)
   all_goals first | (refine F.g rfl trivial rfl rfl fun Y Z => ?_; simp only [zz, simprocAttr, -Int.reduceNatCast', -Int.reduceToNat, tt, q4q]; refine Z _ _ ?_; clear Z Y) | (refine F.g rfl trivial rfl rfl fun Y Z => ?_; simp only [zz, simprocAttr, -Int.reduceNatCast', -Int.reduceToNat, tt, q4q]; refine Z _ _ ?_; clear Z Y)
   all_goals have q5q := J12 f4 f5 f6 f7 o4 o7 @isMap_c isMap_sl @List.getD_cons_zero.{0} @List.length_map.{0,0} hdg (J3 hil hxe @encP.eq_1)
   all_goals first | (refine F.g rfl trivial rfl rfl fun Y Z => ?_; simp only [zz, simprocAttr, -Int.reduceNatCast', -Int.reduceToNat, tt, q5q]; refine Z _ _ ?_; clear Z Y) | (refine F.g rfl trivial rfl rfl fun Y Z => ?_; simp only [zz, simprocAttr, -Int.reduceNatCast', -Int.reduceToNat, tt, q5q]; refine Z _ _ ?_; clear Z Y)
   all_goals (refine F.sp q5q fun b a14 => ?_; cases b <;> (try exact nope a14))
   all_goals refine F.one q5q ?_
   all_goals (try first | refine F.fork ?_ ?_ | refine F.fork3 ?_ ?_ ?_)
   all_goals have q6q := J12 f4 f5 f6 f7 o4 o7 @isMap_c isMap_sl @List.getD_cons_zero.{0} @List.length_map.{0,0} hdg (J3 hil hxe @encP.eq_1)
   all_goals first | (first | (refine F.y rfl trivial rfl rfl rfl rfl fun Y Z => ?_; simp only [zz, simprocAttr, -Int.reduceNatCast', -Int.reduceToNat, tt, q6q]; refine Z _ _ ?_; clear Z Y) | refine F.one trivial ?_) | (first | (refine F.y rfl trivial rfl rfl rfl rfl fun Y Z => ?_; simp only [zz, simprocAttr, -Int.reduceNatCast', -Int.reduceToNat, tt, q6q]; refine Z _ _ ?_; clear Z Y) | refine F.one trivial ?_) | (first | (refine F.y rfl trivial rfl rfl rfl rfl fun Y Z => ?_; simp only [zz, simprocAttr, -Int.reduceNatCast', -Int.reduceToNat, tt, q6q]; refine Z _ _ ?_; clear Z Y) | refine F.one trivial ?_)
   all_goals (try first | refine F.fork ?_ ?_ | refine F.fork3 ?_ ?_ ?_)
   all_goals have q7q := J12 f4 f5 f6 f7 o4 o7 @isMap_c isMap_sl @List.getD_cons_zero.{0} @List.length_map.{0,0} hdg (J3 hil hxe @encP.eq_1)
   all_goals first | (first | (refine F.y rfl trivial rfl rfl rfl rfl fun Y Z => ?_; simp only [zz, simprocAttr, -Int.reduceNatCast', -Int.reduceToNat, tt, q7q]; refine Z _ _ ?_; clear Z Y) | refine F.one trivial ?_) | (first | (refine F.y rfl trivial rfl rfl rfl rfl fun Y Z => ?_; simp only [zz, simprocAttr, -Int.reduceNatCast', -Int.reduceToNat, tt, q7q]; refine Z _ _ ?_; clear Z Y) | refine F.one trivial ?_) | (first | (refine F.y rfl trivial rfl rfl rfl rfl fun Y Z => ?_; simp only [zz, simprocAttr, -Int.reduceNatCast', -Int.reduceToNat, tt, q7q]; refine Z _ _ ?_; clear Z Y) | refine F.one trivial ?_)
   all_goals have q8q := J12 f4 f5 f6 f7 o4 o7 @isMap_c isMap_sl @List.getD_cons_zero.{0} @List.length_map.{0,0} hdg (J3 hil hxe @encP.eq_1)
   all_goals first | (first | (refine F.y rfl trivial rfl rfl rfl rfl fun Y Z => ?_; simp only [zz, simprocAttr, -Int.reduceNatCast', -Int.reduceToNat, tt, q8q]; refine Z _ _ ?_; clear Z Y) | refine F.one trivial ?_) | (first | (refine F.y rfl trivial rfl rfl rfl rfl fun Y Z => ?_; simp only [zz, simprocAttr, -Int.reduceNatCast', -Int.reduceToNat, tt, q8q]; refine Z _ _ ?_; clear Z Y) | refine F.one trivial ?_) | (first | (refine F.y rfl trivial rfl rfl rfl rfl fun Y Z => ?_; simp only [zz, simprocAttr, -Int.reduceNatCast', -Int.reduceToNat, tt, q8q]; refine Z _ _ ?_; clear Z Y) | refine F.one trivial ?_)
   all_goals (try first | refine F.fork ?_ ?_ | refine F.fork3 ?_ ?_ ?_)
   all_goals have q9q := J12 f4 f5 f6 f7 o4 o7 @isMap_c isMap_sl @List.getD_cons_zero.{0} @List.length_map.{0,0} hdg (J3 hil hxe @encP.eq_1)
   all_goals first | (first | (refine F.y rfl trivial rfl rfl rfl rfl fun Y Z => ?_; simp only [zz, simprocAttr, -Int.reduceNatCast', -Int.reduceToNat, tt, q9q]; refine Z _ _ ?_; clear Z Y) | refine F.one trivial ?_) | (first | (refine F.y rfl trivial rfl rfl rfl rfl fun Y Z => ?_; simp only [zz, simprocAttr, -Int.reduceNatCast', -Int.reduceToNat, tt, q9q]; refine Z _ _ ?_; clear Z Y) | refine F.one trivial ?_)
   all_goals (first | (refine F.y rfl trivial rfl rfl rfl rfl fun Y Z => ?_; simp only [zz, simprocAttr, -Int.reduceNatCast', -Int.reduceToNat, tt, f4, f5, f6, f7, o4, o7, isMap_c, isMap_sl, List.getD_cons_zero, List.length_map, hdg, hil, hxe, encP]; refine Z _ _ ?_; clear Z Y) | refine F.one trivial ?_)
   all_goals (first | (refine F.cl (J12 f4 f5 f6 f7 o4 o7 @isMap_c isMap_sl @List.getD_cons_zero.{0} @List.length_map.{0,0} hdg (J3 hil hxe @encP.eq_1)) hsx ?_) | refine F.one trivial ?_)
   all_goals have q10q := J12 f4 f5 f6 f7 o4 o7 @isMap_c isMap_sl @List.getD_cons_zero.{0} @List.length_map.{0,0} hdg (J3 hil hxe @encP.eq_1)
   all_goals (first | (refine F.y rfl trivial rfl rfl rfl rfl fun Y Z => ?_; simp only [zz, simprocAttr, -Int.reduceNatCast', -Int.reduceToNat, q10q]; refine Z _ _ ?_; clear Z Y) | refine F.one trivial ?_)
   all_goals refine F.one q10q ?_
   all_goals refine F.nil ?_
   all_goals simp only [ze, simprocAttr, q10q]
   all_goals exact hgo _ _ ⟨rfl, rfl, by simp [kill, f5], by simp [kill, f6], by simp [kill, f7]⟩
  ·intro σ4 hri
   have hl : (rows.map partA).length = rows.length := by simp
   rw [hl] at hri
   exact ⟨by simp [plainS, keepV, e4], by simp [plainS, keepV, e5], by simp [plainS, keepV, e6], by simp [plainS, keepV, e7], hri⟩
  ·rintro σ4 ⟨_, ho⟩
   have f6 : (plainS s).t 6 = .c (.pointer (some ⟨r6, 0, none⟩)) := by simp [plainS, keepV, e6]
   generalize plainS s = s1 at f6 ⊢
   simp only [zs, simprocAttr, tt, cut, List.drop_zero, List.take_succ_cons, List.take_zero, isMap_c, Hp.setObj_obj, f6, ho, List.getD_cons_zero]
   simp [qLoad, isMap, cut, okV, wk, wk1, ho]
 rintro s σ4 ⟨e4, e5, e6, e7, ⟨o4, o5, o6, o7⟩⟩
 refine AW.seq_k fun K3 h3 => ?_
 all_goals refine AW.reg0 ?_
 all_goals iterate 5 (refine S.g rfl rfl fun Y Z => ?_; simp only [zz, reduceIte, Nat.reduceEqDiff, Nat.reduceLT, Nat.reduceLeDiff, Nat.reduceAdd, reduceCtorEq, Nat.reduceMul, tt, e4, e5, e6, e7, o4, o5, o6, o7, isMap_c, isMap_sl, List.getD_cons_zero, List.length_map, beq_self_eq_true, List.length_cons, List.length_nil, true_and, List.drop_succ_cons, List.drop_nil]; refine Z _ _ ?_; clear Z Y)
 all_goals (refine S.nil ?_; simp only [ze, reduceIte, Nat.reduceEqDiff, Nat.reduceLT, Nat.reduceLeDiff, Nat.reduceAdd, reduceCtorEq, Nat.reduceMul, e4, e5, e6, e7, o4, o5, o6, o7, isMap_c, isMap_sl, List.getD_cons_zero, List.length_map, beq_self_eq_true, List.length_cons, List.length_nil, true_and, List.drop_succ_cons, List.drop_nil]; apply_assumption)
 all_goals refine AW.ret ?_
 all_goals simp only [zs, simprocAttr, tt, cut, List.drop_zero, List.take_succ_cons, List.take_zero, isMap_c, Hp.setObj_obj, e6, List.getD_cons_zero]
 all_goals simp [qLoad, isMap, cut, okV, wk, wk1]
def Turned (l es : List Ev) (i : Nat) : Prop := es.length = l.length ∧ ∀ x, x < l.length → es[x]? = if x < i ∨ l.length - i ≤ x then l[l.length - 1 - x]? else l[x]?
theorem Turned.done {l es : List Ev} {i : Nat} (h : Turned l es i) (hi : ¬ (i : Int) < (l.length : Int) - 1 - i) : es = l.reverse := by
 obtain ⟨h1, h2⟩ := h
 apply List.ext_getElem?
 intro x
 by_cases hx : x < l.length
 ·rw [h2 x hx, List.getElem?_reverse hx]
  split
  ·rfl
  ·rename_i h
   congr 1
   omega
 ·rw [List.getElem?_eq_none (by omega), List.getElem?_eq_none (by simp; omega)]
theorem encPat_fix (p : Pat) : ∀ k es, (encPat p).map (fz1 k es) = encPat p := fun k es => by rw [encPat]; rfl
theorem denAll_law (p : Pat) (evs : List Ev) (stop : Int) (hp : okPat p) (hel : evs.length < 4611686018427387904) (heo : ∀ e ∈ evs, okE e) : PCalls Tryz.prog 8 [.agg (encPat p), .sl (evs.map encEv), .c (.int .i64 stop)] (fun v => v = .c (.bool true)) := by
 have hE := (encNd_eq p.node).symm
 have hall := All_P p hp evs hel heo
 have hrall := rAllP_spec p hp evs hel heo
 have hit := iter_walk p hp evs hel heo
 have hmany := fun hll => ACalls.bare (Many_spec p hp evs hel heo _ rfl hll) (R' := fun v => v = .c (.int .i64 ((allOut p (nodeOut p.node evs (p.node.denP evs))).1.length : Nat))) (fun v _ h => h)
 have hwalk := Walk_spec p evs
 rw [← nodeOut_same] at hrall
 generalize allOut p (nodeOut p.node evs (p.node.denP evs)) = o at hall hrall hit hmany
 obtain ⟨l, e⟩ := o
 refine ACalls.bare (R := fun v _ => v = .c (.bool true)) (ACalls.intro Tryz.call8 Tryz.func8 rfl Tryz.ntmps8 Tryz.results8 (by simp) ?_) fun _ _ h => h
 refine AW.sr @encPat.eq_1 ?_
 refine AW.seq_j (fun s' σ' => σ' = Hp.empty ∧ s'.t 1 = .sl (evs.map encEv) ∧ s'.t 2 = .c (.int .i64 stop) ∧ s'.t 3 = .lp 3 0 ∧ s'.l 3 = some (encPat p)) ?_ ?_
 ·refine AW.seq_j (fun s' σ' => σ' = Hp.empty ∧ s'.t 1 = .sl (evs.map encEv) ∧ s'.t 2 = .c (.int .i64 stop) ∧ s'.t 3 = .lp 3 0 ∧ s'.l 3 = some (encPat p) ∧ s'.t 18 = .c (.bool (!fitN p.node))) ?_ ?_
  ·skip
   refine AW.reg0 ?_
   iterate 2 refine S.one (J3 @encPat.eq_1 hE @nd) ?_
   have q1q := J3 @encPat.eq_1 hE @nd
   (refine S.cb q1q (fit_spec p.node hp.small) fun b a13 => ?_; cases b <;> (try exact nope a13))
   all_goals iterate 2 refine S.one q1q ?_
   all_goals have q2q := J3 @encPat.eq_1 hE @nd
   all_goals (first | (refine S.cl q2q live_spec ?_) | refine S.one trivial ?_)
   all_goals iterate 2 refine S.one q2q ?_
   all_goals refine S.nil ?_
   all_goals simp only [ze, simprocAttr, q2q]
   all_goals simp_all [encPat]
  rintro s σ ⟨rfl, e1, e2, e3, l3, e18⟩
  refine AW.cond (b := !fitN p.node) e18 (fun hb => ?_) (fun hb => ?_)
  ·refine AW.seq_k fun K2 h2 => ?_
   refine AW.reg0 ?_
   refine S.cl trivial live_spec ?_
   all_goals refine S.one trivial ?_
   all_goals (refine S.nil ?_; simp only [ze, simprocAttr]; apply_assumption)
   refine AW.ret ?_
   all_goals simp only [zs, simprocAttr]
   all_goals exact fn1
  ·refine AW.skip ?_
   simp only [zs, simprocAttr, e1, e2, e3, l3]
   all_goals exact fn1
 rintro s σ ⟨rfl, e1, e2, e3, l3⟩
 have l3' := l3
 rw [encPat] at l3'
 rw [encPat] at hall hrall hmany hwalk
 refine AW.seq_k fun K3 h3 => ?_
 all_goals refine AW.reg0 ?_
 all_goals iterate 2 refine S.one (J5 e1 e3 l3' hE @nd) ?_
 all_goals have q3q := J5 e1 e3 l3' hE @nd
 all_goals (refine S.g rfl rfl fun Y Z => ?_; simp only [zz, simprocAttr, -Int.reduceNatCast', -Int.reduceToNat, q3q]; (refine ACalls.to hall ?_; rintro _ σ1 ⟨u1, rfl, hown1, hok1, hlen1⟩) <;> (refine Z _ _ ?_; clear Z Y))
 all_goals iterate 5 refine S.one q3q ?_
 all_goals (refine S.nil ?_; simp only [ze, simprocAttr, q3q]; apply_assumption)
 have hlen1 : l.length ≤ 4096 := hlen1
 have hok1 : ∀ p ∈ l, okQ p := hok1
 have hmany := hmany hlen1
 refine AW.gen (fun s' => s'.t 1 = .sl (evs.map encEv) ∧ s'.t 2 = .c (.int .i64 stop) ∧ s'.t 3 = .lp 3 0 ∧ s'.l 3 = some (encPat p) ∧ s'.t 7 = u1 ∧ s'.t 8 = .c (.int .i64 e)) ?_ ?_
 ·simp only [zs, simprocAttr, e1, e2, e3, l3]
  all_goals exact fn1
 rintro s ⟨e1, e2, e3, l3, e7, e8⟩
 refine AW.heldP (i := 7) (by rw [e7]; exact hown1) fun s4 f7 kt _ kl => ?_
 have e1 := kt 1 _ e1 (fun _ _ => rfl)
 have e2 := kt 2 _ e2 (fun _ _ => rfl)
 have e3 := kt 3 _ e3 (fun _ _ => rfl)
 have e8 := kt 8 _ e8 (fun _ _ => rfl)
 have l3 := kl 3 _ l3 (encPat_fix p)
 have l3' := l3
 rw [encPat] at l3'
 have htell := fun st => tells_spec p evs l st hit hlen1 hok1
 have hsame := rSameAll_spec l l (by omega) (fun x hx => (hok1 x hx).toL)
 rw [allEq_refl (fun x => samePart_iff.2 rfl)] at hsame
 simp only [resP] at hrall
 have hfo : okV (.fn (.func 58) [] (walkC p evs)) = true := rfl
 have hfw : wk (.fn (.func 58) [] (walkC p evs)) = .fn (.func 58) [] (walkC p evs) := rfl
 generalize V.fn (.func 58) [] (walkC p evs) = fv at *
 refine AW.seq_k fun K4 h4 => ?_
 all_goals refine AW.reg0 ?_
 all_goals iterate 2 refine S.one (J5 e1 e3 l3' hE @nd) ?_
 all_goals have q4q := J5 e1 e3 l3' hE @nd
 all_goals refine S.cl q4q hrall ?_
 all_goals iterate 5 refine S.one q4q ?_
 all_goals (refine S.nil ?_; simp only [ze, simprocAttr, q4q]; apply_assumption)
 refine AW.gen (fun s' => s'.t 1 = .sl (evs.map encEv) ∧ s'.t 2 = .c (.int .i64 stop) ∧ s'.t 3 = .lp 3 0 ∧ s'.l 3 = some (encPat p) ∧ s'.t 7 = .sl (l.map encP) ∧ s'.t 8 = .c (.int .i64 e) ∧ s'.t 9 = .sl (l.map encP) ∧ s'.t 10 = .c (.int .i64 e)) ?_ ?_
 ·simp only [zs, simprocAttr, e1, e2, e3, l3, f7, e8]
  all_goals exact fn1
 rintro s ⟨e1, e2, e3, l3, e7, e8, e9, e10⟩
 have l3' := l3
 rw [encPat] at l3'
 refine AW.seq_j (fun s' σ' => s'.t 6 = .c (.bool true)) ?_ ?_
 ·skip
  refine AW.reg0 ?_
  have q5q := J12 e1 e2 e3 l3' e7 e8 e9 e10 hE @nd @beq_self_eq_true.{0} (J3 @List.length_map.{0,0} hfo hfw)
  iterate 2 refine S.one q5q ?_
  (refine S.sp q5q fun b a34 => ?_; cases b <;> (try exact nope a34))
  all_goals iterate 3 refine S.one q5q ?_
  all_goals have q6q := J12 e1 e2 e3 l3' e7 e8 e9 e10 hE @nd @beq_self_eq_true.{0} (J3 @List.length_map.{0,0} hfo hfw)
  all_goals (first | (refine S.cb q6q hsame fun b a38 => ?_; cases b <;> (try exact nope a38)) | refine S.one trivial ?_)
  all_goals iterate 4 refine S.one q6q ?_
  all_goals have q7q := J12 e1 e2 e3 l3' e7 e8 e9 e10 hE @nd @beq_self_eq_true.{0} (J3 @List.length_map.{0,0} hfo hfw)
  all_goals (first | (refine S.cl q7q hmany ?_) | refine S.one trivial ?_)
  all_goals iterate 2 refine S.one q7q ?_
  all_goals (first | (refine S.sp q7q fun b a46 => ?_; cases b <;> (try exact nope a46)) | refine S.one trivial ?_)
  all_goals iterate 4 refine S.one q7q ?_
  all_goals have q8q := J12 e1 e2 e3 l3' e7 e8 e9 e10 hE @nd @beq_self_eq_true.{0} (J3 @List.length_map.{0,0} hfo hfw)
  all_goals (first | (refine S.cl q8q hwalk ?_) | refine S.one trivial ?_)
  all_goals iterate 2 refine S.one q8q ?_
  all_goals have q9q := J12 e1 e2 e3 l3' e7 e8 e9 e10 hE @nd @beq_self_eq_true.{0} (J3 @List.length_map.{0,0} hfo hfw)
  all_goals (first | (refine S.cb q9q (htell _) fun b a54 => ?_; cases b <;> (try exact nope a54)) | refine S.one trivial ?_)
  all_goals iterate 4 refine S.one q9q ?_
  all_goals have q10q := J12 e1 e2 e3 l3' e7 e8 e9 e10 hE @nd @beq_self_eq_true.{0} (J3 @List.length_map.{0,0} hfo hfw)
  all_goals (first | (refine S.cl q10q hwalk ?_) | refine S.one trivial ?_)
  all_goals refine S.one q10q ?_
  all_goals have q11q := J12 e1 e2 e3 l3' e7 e8 e9 e10 hE @nd @beq_self_eq_true.{0} (J3 @List.length_map.{0,0} hfo hfw)
  all_goals (first | (refine S.cl q11q (htell _) ?_) | refine S.one trivial ?_)
  all_goals iterate 2 refine S.one q11q ?_
  all_goals refine S.nil ?_
  all_goals simp only [ze, simprocAttr, q11q]
  all_goals simp_all
 rintro s4 σ4 e6
 refine AW.ret ?_
 all_goals simp only [zs, simprocAttr, e6]
 all_goals exact fn1
end Go.Abs.M
namespace Go.Abs.M
open Go Go.Abs Go.Proofs
set_option maxRecDepth 20000
theorem co2 : Tryz.prog.cellsOf 2 = 1 := by kernel_rfl
theorem co3 : Tryz.prog.cellsOf 3 = 1 := by kernel_rfl
theorem co9 : Tryz.prog.cellsOf 9 = 1 := by kernel_rfl
theorem co22 : Tryz.prog.cellsOf 22 = 1 := by kernel_rfl
theorem co23 : Tryz.prog.cellsOf 23 = 1 := by kernel_rfl
theorem co25 : Tryz.prog.cellsOf 25 = 5 := by kernel_rfl
theorem co37 : Tryz.prog.cellsOf 37 = 8 := by kernel_rfl
theorem co45 : Tryz.prog.cellsOf 45 = 2 := by kernel_rfl
theorem co46 : Tryz.prog.cellsOf 46 = 1 := by kernel_rfl
theorem co48 : Tryz.prog.cellsOf 48 = 5 := by kernel_rfl
theorem co104 : Tryz.prog.cellsOf 104 = 3 := by kernel_rfl
theorem co106 : Tryz.prog.cellsOf 106 = 5 := by kernel_rfl
theorem co108 : Tryz.prog.cellsOf 108 = 11 := by kernel_rfl
theorem co119 : Tryz.prog.cellsOf 119 = 4 := by kernel_rfl
theorem len4 {us : List V} (h : us.length = 4) : ∃ x0 x1 x2 x3, us = [x0, x1, x2, x3] := by
 match us, h with
 | [x0, x1, x2, x3], _ => exact ⟨x0, x1, x2, x3, rfl⟩
theorem len5 {us : List V} (h : us.length = 5) : ∃ x0 x1 x2 x3 x4, us = [x0, x1, x2, x3, x4] := by
 match us, h with
 | [x0, x1, x2, x3, x4], _ => exact ⟨x0, x1, x2, x3, x4, rfl⟩
theorem len8 {us : List V} (h : us.length = 8) : ∃ x0 x1 x2 x3 x4 x5 x6 x7, us = [x0, x1, x2, x3, x4, x5, x6, x7] := by
 match us, h with
 | [x0, x1, x2, x3, x4, x5, x6, x7], _ => exact ⟨x0, x1, x2, x3, x4, x5, x6, x7, rfl⟩
theorem len11 {us : List V} (h : us.length = 11) : ∃ x0 x1 x2 x3 x4 x5 x6 x7 x8 x9 x10, us = [x0, x1, x2, x3, x4, x5, x6, x7, x8, x9, x10] := by
 match us, h with
 | [x0, x1, x2, x3, x4, x5, x6, x7, x8, x9, x10], _ => exact ⟨x0, x1, x2, x3, x4, x5, x6, x7, x8, x9, x10, rfl⟩
theorem open_val {n : Nat} {x0 x1 x2 : V} (h : Fit Tryz.prog n 104 [x0, x1, x2]) : ∃ v : Val, [x0, x1, x2] = encVal v ∧ v.s.size ≤ reachBytes := by
 obtain ⟨_, m, _, hf⟩ := h.st Tryz.underlying104
 have h0 : Fit Tryz.prog m 3 (([x0, x1, x2].drop 0).take (Tryz.prog.cellsOf 3)) := hf 0 _ rfl
 have h1 : Fit Tryz.prog m 2 (([x0, x1, x2].drop 1).take (Tryz.prog.cellsOf 2)) := hf 1 _ rfl
 have h2 : Fit Tryz.prog m 9 (([x0, x1, x2].drop 2).take (Tryz.prog.cellsOf 9)) := hf 2 _ rfl
 simp only [co3, co2, co9, List.drop_zero, List.take_succ_cons, List.take_zero, List.drop_succ_cons] at h0 h1 h2
 obtain ⟨a, e0, _⟩ := h0.int Tryz.underlying3
 obtain ⟨b, e1, _⟩ := h1.int Tryz.underlying2
 obtain ⟨s, e2, hs⟩ := h2.str Tryz.underlying9
 simp only [List.cons.injEq, and_true] at e0 e1 e2
 exact ⟨⟨a, b, s⟩, by rw [e0, e1, e2]; rfl, hs⟩
def opdFits (o : Opd) : Prop := o.var.size ≤ reachBytes ∧ o.attr.size ≤ reachBytes ∧ o.v.s.size ≤ reachBytes
theorem open_opd {n : Nat} {x0 x1 x2 x3 x4 : V} (h : Fit Tryz.prog n 106 [x0, x1, x2, x3, x4]) : ∃ o : Opd, [x0, x1, x2, x3, x4] = encO o ∧ opdFits o := by
 obtain ⟨_, m, _, hf⟩ := h.st Tryz.underlying106
 have h0 : Fit Tryz.prog m 9 (([x0, x1, x2, x3, x4].drop 0).take (Tryz.prog.cellsOf 9)) := hf 0 _ rfl
 have h1 : Fit Tryz.prog m 9 (([x0, x1, x2, x3, x4].drop 1).take (Tryz.prog.cellsOf 9)) := hf 1 _ rfl
 have h2 : Fit Tryz.prog m 104 (([x0, x1, x2, x3, x4].drop 2).take (Tryz.prog.cellsOf 104)) := hf 2 _ rfl
 simp only [co9, co104, List.drop_zero, List.take_succ_cons, List.take_zero, List.drop_succ_cons] at h0 h1 h2
 obtain ⟨s, e0, hs⟩ := h0.str Tryz.underlying9
 obtain ⟨t, e1, ht⟩ := h1.str Tryz.underlying9
 obtain ⟨v, e2, hv⟩ := open_val h2
 simp only [List.cons.injEq, and_true] at e0 e1
 exact ⟨⟨s, t, v⟩, by rw [e0, e1, e2]; rfl, hs, ht, hv⟩
def cndFits (c : Cnd) : Prop := opdFits c.l ∧ opdFits c.r
theorem open_cnd {n : Nat} {us : List V} (hl : us.length = 11) (h : Fit Tryz.prog n 108 us) : ∃ c : Cnd, us = encC c ∧ cndFits c := by
 obtain ⟨_, m, _, hf⟩ := h.st Tryz.underlying108
 have h0 : Fit Tryz.prog m 106 ((us.drop 0).take (Tryz.prog.cellsOf 106)) := hf 0 _ rfl
 have h1 : Fit Tryz.prog m 3 ((us.drop 5).take (Tryz.prog.cellsOf 3)) := hf 1 _ rfl
 have h2 : Fit Tryz.prog m 106 ((us.drop 6).take (Tryz.prog.cellsOf 106)) := hf 2 _ rfl
 obtain ⟨x0, x1, x2, x3, x4, x5, x6, x7, x8, x9, x10, rfl⟩ := len11 hl
 simp only [co106, co3, List.drop_zero, List.take_succ_cons, List.take_zero, List.drop_succ_cons] at h0 h1 h2
 obtain ⟨a, e0, ha⟩ := open_opd h0
 obtain ⟨r, e1, _⟩ := h1.int Tryz.underlying3
 obtain ⟨b, e2, hb⟩ := open_opd h2
 simp only [List.cons.injEq, and_true] at e1
 refine ⟨⟨a, r, b⟩, ?_, ha, hb⟩
 show [x0, x1, x2, x3, x4] ++ [x5] ++ [x6, x7, x8, x9, x10] = encO a ++ [_] ++ encO b
 rw [e0, e1, e2]
def attrFits (a : Attr) : Prop := a.name.size ≤ reachBytes ∧ a.v.s.size ≤ reachBytes
theorem open_attr {n : Nat} {us : List V} (hl : us.length = 4) (h : Fit Tryz.prog n 119 us) : ∃ a : Attr, us = encAttr a ∧ attrFits a := by
 obtain ⟨_, m, _, hf⟩ := h.st Tryz.underlying119
 have h0 : Fit Tryz.prog m 9 ((us.drop 0).take (Tryz.prog.cellsOf 9)) := hf 0 _ rfl
 have h1 : Fit Tryz.prog m 104 ((us.drop 1).take (Tryz.prog.cellsOf 104)) := hf 1 _ rfl
 obtain ⟨x0, x1, x2, x3, rfl⟩ := len4 hl
 simp only [co9, co104, List.drop_zero, List.take_succ_cons, List.take_zero, List.drop_succ_cons] at h0 h1
 obtain ⟨s, e0, hs⟩ := h0.str Tryz.underlying9
 obtain ⟨v, e1, hv⟩ := open_val h1
 simp only [List.cons.injEq, and_true] at e0
 refine ⟨⟨s, v⟩, ?_, hs, hv⟩
 rw [e0, e1]; rfl
theorem inI64_of {x : Int} (h : (Lit.int .i64 x).wf = true) : inI64 x := by
 simp [Lit.wf, IntKind.min, IntKind.max, IntKind.signed, IntKind.bits] at h
 unfold inI64; omega
structure evFits (e : Ev) : Prop where
  type : e.type.size ≤ reachBytes
  len : e.attrs.length * 48 ≤ reachBytes
  attrs : ∀ a ∈ e.attrs, attrFits a
  time : inI64 e.time
theorem open_ev {n : Nat} {us : List V} (hl : us.length = 5) (h : Fit Tryz.prog n 48 us) : ∃ e : Ev, us = encEv e ∧ evFits e := by
 obtain ⟨_, m, _, hf⟩ := h.st Tryz.underlying48
 have h0 : Fit Tryz.prog m 45 ((us.drop 0).take (Tryz.prog.cellsOf 45)) := hf 0 _ rfl
 have h1 : Fit Tryz.prog m 2 ((us.drop 2).take (Tryz.prog.cellsOf 2)) := hf 1 _ rfl
 have h2 : Fit Tryz.prog m 9 ((us.drop 3).take (Tryz.prog.cellsOf 9)) := hf 2 _ rfl
 have h3 : Fit Tryz.prog m 46 ((us.drop 4).take (Tryz.prog.cellsOf 46)) := hf 3 _ rfl
 obtain ⟨x0, x1, x2, x3, x4, rfl⟩ := len5 hl
 simp only [co45, co2, co9, co46, List.drop_zero, List.take_succ_cons, List.take_zero, List.drop_succ_cons] at h0 h1 h2 h3
 obtain ⟨_, m', _, hg⟩ := h0.st Tryz.underlying45
 have g0 : Fit Tryz.prog m' 3 (([x0, x1].drop 0).take (Tryz.prog.cellsOf 3)) := hg 0 _ rfl
 have g1 : Fit Tryz.prog m' 2 (([x0, x1].drop 1).take (Tryz.prog.cellsOf 2)) := hg 1 _ rfl
 simp only [co3, co2, List.drop_zero, List.take_succ_cons, List.take_zero, List.drop_succ_cons] at g0 g1
 obtain ⟨a, e0, _⟩ := g0.int Tryz.underlying3
 obtain ⟨b, e1, _⟩ := g1.int Tryz.underlying2
 obtain ⟨c, e2, hc⟩ := h1.int Tryz.underlying2
 obtain ⟨s, e3, hs⟩ := h2.str Tryz.underlying9
 obtain ⟨es, e4, hes, k, _, hk⟩ := h3.sl Tryz.underlying46
 simp only [co119] at hk
 obtain ⟨l, rfl, hl⟩ := rows_of (f := encAttr) (p := attrFits) fun x hx => open_attr (hk x hx).1 (hk x hx).2
 simp only [List.cons.injEq, and_true] at e0 e1 e2 e3 e4
 refine ⟨⟨a, b, c, s, l⟩, by rw [e0, e1, e2, e3, e4]; rfl, hs, ?_, hl, inI64_of hc⟩
 rw [List.length_map, by119] at hes; exact hes
theorem evFits.ok {e : Ev} (h : evFits e) : okE e := by
 have hr : reachBytes = 140737488351232 := rfl
 obtain ⟨h1, h2, h3, _⟩ := h
 exact ⟨by omega, by omega, fun a ha => by obtain ⟨h5, h6⟩ := h3 a ha; exact ⟨by omega, by omega⟩⟩
theorem okC_of {c : Cnd} (h : cndFits c) : okC c := by
 have hr : reachBytes = 140737488351232 := rfl
 obtain ⟨⟨h1, h2, h3⟩, h4, h5, h6⟩ := h
 exact ⟨⟨by omega⟩, ⟨by omega⟩⟩
theorem open_conds {n : Nat} {x : V} (h : Fit Tryz.prog n 22 [x]) : ∃ l : List Cnd, x = .sl (l.map encC) ∧ (∀ c ∈ l, okC c) ∧ l.length < 4611686018427387904 := by
 have hr : reachBytes = 140737488351232 := rfl
 obtain ⟨es, e4, hes, k, _, hk⟩ := h.sl Tryz.underlying22
 simp only [co108] at hk
 obtain ⟨l, rfl, hl⟩ := rows_of (f := encC) (p := cndFits) fun x hx => open_cnd (hk x hx).1 (hk x hx).2
 simp only [List.cons.injEq, and_true] at e4
 refine ⟨l, e4, fun c hc => okC_of (hl c hc), ?_⟩
 rw [List.length_map, by108] at hes; omega
theorem open_nd : ∀ (n : Nat) (us : List V), us.length = 5 → Fit Tryz.prog n 25 us → ∃ nd : Nd, us = encNd nd ∧ nd.ok := by
  intro n
  induction n using Nat.strongRecOn with
  | _ n ih =>
    intro us hl h
    have hr : reachBytes = 140737488351232 := rfl
    obtain ⟨_, m, hm, hf⟩ := h.st Tryz.underlying25
    have h0 : Fit Tryz.prog m 3 ((us.drop 0).take (Tryz.prog.cellsOf 3)) := hf 0 _ rfl
    have h1 : Fit Tryz.prog m 9 ((us.drop 1).take (Tryz.prog.cellsOf 9)) := hf 1 _ rfl
    have h2 : Fit Tryz.prog m 9 ((us.drop 2).take (Tryz.prog.cellsOf 9)) := hf 2 _ rfl
    have h3 : Fit Tryz.prog m 22 ((us.drop 3).take (Tryz.prog.cellsOf 22)) := hf 3 _ rfl
    have h4 : Fit Tryz.prog m 23 ((us.drop 4).take (Tryz.prog.cellsOf 23)) := hf 4 _ rfl
    obtain ⟨x0, x1, x2, x3, x4, rfl⟩ := len5 hl
    simp only [co3, co9, co22, co23, List.drop_zero, List.take_succ_cons, List.take_zero, List.drop_succ_cons] at h0 h1 h2 h3 h4
    obtain ⟨a, e0, _⟩ := h0.int Tryz.underlying3
    obtain ⟨s, e1, hs⟩ := h1.str Tryz.underlying9
    obtain ⟨t, e2, ht⟩ := h2.str Tryz.underlying9
    obtain ⟨cs, e3, hcs, hcl⟩ := open_conds h3
    obtain ⟨es, e4, hes, k, hkm, hk⟩ := h4.sl Tryz.underlying23
    simp only [co25] at hk
    obtain ⟨l, rfl, hl⟩ := rows_of (f := encNd) (p := Nd.ok) fun x hx => ih k (by omega) x (hk x hx).1 (hk x hx).2
    simp only [List.cons.injEq, and_true] at e0 e1 e2 e4
    refine ⟨⟨a, s, t, cs, l⟩, by rw [e0, e1, e2, e3, e4, encNd_eq]; rfl, ?_⟩
    rw [Nd.ok_eq]
    refine ⟨⟨by show s.size < _; omega, by show t.size < _; omega, hcl, hcs⟩, fun p hp => ?_⟩
    obtain ⟨x, hx, rfl⟩ := List.mem_map.1 hp
    exact hl x hx
theorem open_pat {n : Nat} {us : List V} (hl : us.length = 8) (h : Fit Tryz.prog n 37 us) : ∃ p : Pat, us = encPat p ∧ p.name.size < 4611686018427387904 ∧ p.node.ok ∧ p.conds.length < 4611686018427387904 ∧ (∀ c ∈ p.conds, okC c) ∧ inI64 p.within := by
 have hr : reachBytes = 140737488351232 := rfl
 obtain ⟨_, m, _, hf⟩ := h.st Tryz.underlying37
 have h0 : Fit Tryz.prog m 9 ((us.drop 0).take (Tryz.prog.cellsOf 9)) := hf 0 _ rfl
 have h1 : Fit Tryz.prog m 2 ((us.drop 1).take (Tryz.prog.cellsOf 2)) := hf 1 _ rfl
 have h2 : Fit Tryz.prog m 25 ((us.drop 2).take (Tryz.prog.cellsOf 25)) := hf 2 _ rfl
 have h3 : Fit Tryz.prog m 22 ((us.drop 7).take (Tryz.prog.cellsOf 22)) := hf 3 _ rfl
 obtain ⟨x0, x1, x2, x3, x4, x5, x6, x7, rfl⟩ := len8 hl
 simp only [co9, co2, co25, co22, List.drop_zero, List.take_succ_cons, List.take_zero, List.drop_succ_cons] at h0 h1 h2 h3
 obtain ⟨s, e0, hs⟩ := h0.str Tryz.underlying9
 obtain ⟨w, e1, hw⟩ := h1.int Tryz.underlying2
 obtain ⟨nd, e2, hn⟩ := open_nd m _ rfl h2
 obtain ⟨cs, e3, hcs, hcl⟩ := open_conds h3
 simp only [List.cons.injEq, and_true] at e0 e1
 refine ⟨⟨s, w, nd, cs⟩, ?_, by show s.size < _; omega, hn, hcl, hcs, inI64_of hw⟩
 show [x0, x1] ++ [x2, x3, x4, x5, x6] ++ [x7] = _
 rw [e0, e1, e2, e3, encNd_eq]; rfl
def plainTs : List TypeId := [25, 23, 22, 108, 106, 104, 26, 48, 45, 46, 119, 37, 40, 38, 50, 9, 3, 2, 5]
theorem plain_ok : plainB Tryz.prog plainTs = true := by kernel_rfl
theorem okWide_agg {P : Program} {W : World} {r : Reach} {base : Nat} {t : TypeId} {fs : Array Field} {v : Value} (hu : P.underlying t = some (.struct fs)) (h : Value.okWide P W r base t v) : ∃ cs, v = .agg cs ∧ cs.size = P.cellsOf t := by
 simp only [Value.okWide, hu] at h
 obtain ⟨cs, h1, h2, _⟩ := h
 exact ⟨cs, h1, h2⟩
theorem flat_of {t : TypeId} {W : World} {base : Nat} {v : Value} (hu : (∃ k, Tryz.prog.underlying t = some (.int k)) ∨ Tryz.prog.underlying t = some .string ∨ ∃ e, Tryz.prog.underlying t = some (.slice e)) (hval : Value.okWide Tryz.prog W .any base t v) : ∀ cs, v ≠ .agg cs := by
 rintro cs rfl
 rcases hu with ⟨k, hu⟩ | hu | ⟨e, hu⟩ <;> simp [Value.okWide, Cell.okWide, Cell.ok, hu] at hval
section
variable {H : Type} {enc : TypeId × Value → H} {W : World} {base : Nat} {v : Value} {d : DataW H} {ps : List MemPlace}
theorem arg_pat (hval : Value.okWide Tryz.prog W .any base 37 v)
  (h : DataW.Trod enc Tryz.prog W 0 (fun _ => true) true 37 v d ps) (hw : ∀ n ∈ d.weights Tryz.prog 37, n ≤ reachBytes) : ∃ p : Pat, VR W (cx0 W) (.agg (encPat p)) v ∧ VRs W (cx0 W) (encPat p) v.cells.toList ∧ p.name.size < 4611686018427387904 ∧ p.node.ok ∧ p.conds.length < 4611686018427387904 ∧ (∀ c ∈ p.conds, okC c) ∧ inI64 p.within := by
 obtain ⟨n, us, h1, h2⟩ := open_arg (P := Tryz.prog) (t := 37) plainTs plain_ok (by decide) h hw
 obtain ⟨cs, rfl, hcs⟩ := okWide_agg Tryz.underlying37 hval
 have hl : us.length = 8 := by rw [h1.1]; simpa [Value.cells, co37] using hcs
 obtain ⟨p, rfl, hok⟩ := open_pat hl h2
 exact ⟨p, VR.of_row h1, h1, hok⟩
theorem arg_evs (hval : Value.okWide Tryz.prog W .any base 26 v)
  (h : DataW.Trod enc Tryz.prog W 0 (fun _ => true) true 26 v d ps) (hw : ∀ n ∈ d.weights Tryz.prog 26, n ≤ reachBytes) : ∃ l : List Ev, VR W (cx0 W) (.sl (l.map encEv)) v ∧ (∀ e ∈ l, evFits e) ∧ l.length * 64 ≤ reachBytes := by
 obtain ⟨n, us, h1, h2⟩ := open_arg (P := Tryz.prog) (t := 26) plainTs plain_ok (by decide) h hw
 obtain ⟨es, rfl, hes, k, _, hk⟩ := h2.sl Tryz.underlying26
 simp only [co48] at hk
 obtain ⟨l, rfl, hl⟩ := rows_of (f := encEv) (p := evFits) fun x hx => open_ev (hk x hx).1 (hk x hx).2
 refine ⟨l, VR.of_cell h1 (flat_of (.inr (.inr ⟨_, Tryz.underlying26⟩)) hval), hl, ?_⟩
 rw [List.length_map, by48] at hes; exact hes
end
end Go.Abs.M
namespace Go.Abs.M
open Go Go.Abs Go.Proofs
open Go.Proofs.YtkijhgplmikboaaGreat.Rows (uptoBulk uptoBulkAll)
set_option maxRecDepth 20000
theorem bulk_le {H : Type} : ∀ {d : DataW H} {l : List (DataW H)}, d ∈ l → uptoBulk d ≤ uptoBulkAll l
  | d, x :: l, h => by
    simp only [uptoBulkAll]
    rcases List.mem_cons.1 h with rfl | h
    · omega
    · have := bulk_le h; omega
theorem bulk_one {H : Type} (d : DataW H) : 1 ≤ uptoBulk d := by
 cases d with
 | lit l => cases l <;> simp [uptoBulk]
 | nil => simp [uptoBulk]
 | ptr d => simp [uptoBulk]
 | slice elems spare => simp [uptoBulk]
 | agg parts => simp [uptoBulk]
 | iface t d => simp [uptoBulk]
 | map entries => simp [uptoBulk]
 | held h => simp [uptoBulk]
theorem bulk_sum {H : Type} {n : Nat} (D : Nat → DataW H) : ∀ (l : List Nat) (o : Nat), (∀ i x, l[i]? = some x → x ≤ uptoBulk (D (o + i))) → l.sum ≤ uptoBulkAll ((List.range l.length).map fun i => D (o + i))
  | [], o, _ => by simp [uptoBulkAll]
  | x :: l, o, h => by
    have h0 := h 0 x rfl
    have h1 := bulk_sum (n := n) D l (o + 1) fun i y hy => by
      have := h (i + 1) y (by simpa using hy)
      rwa [show o + (i + 1) = o + 1 + i by omega] at this
    rw [List.length_cons, List.range_succ_eq_map, List.map_cons, List.sum_cons]
    simp only [uptoBulkAll, Nat.add_zero, List.map_map] at h0 ⊢
    have e : (List.range l.length).map ((fun i => D (o + i)) ∘ Nat.succ) = (List.range l.length).map fun i => D (o + 1 + i) := List.map_congr_left fun i _ => by
      show D (o + (i + 1)) = _
      rw [show o + (i + 1) = o + 1 + i by omega]
    rw [e]; omega
theorem nd_bulk {H : Type} {enc : TypeId × Value → H} {W : World} : ∀ (nd : Nd) (fuel : Nat) (cs : List Value) (d : DataW H) (ps : List MemPlace),
    DataW.trod enc Tryz.prog W 0 (fun _ => true) true fuel 25 cs = some (d, ps) → VRs W (cx0 W) (encNd nd) cs → nd.size ≤ uptoBulk d := Nd.ind fun nd ih fuel cs d ps h hv => by
  obtain ⟨xs, n, _, hx, hcl, hxl, hfs⟩ := DataW.trod_struct Tryz.underlying25 h
  simp only [Prod.mk.injEq] at hx
  obtain ⟨rfl, -⟩ := hx
  have h4 := hfs 4 _ rfl
  rw [List.getElem?_eq_getElem (by rw [hxl]; decide)] at h4
  generalize hy : xs[4]'(by rw [hxl]; decide) = y at h4
  have hym : y.1 ∈ xs.map (·.1) := List.mem_map.2 ⟨y, by rw [← hy]; exact List.getElem_mem _, rfl⟩
  obtain ⟨yd, yp⟩ := y
  have hb := bulk_le hym
  have hd : uptoBulk (DataW.agg (xs.map (·.1))) = uptoBulkAll (xs.map (·.1)) + 1 := by simp [uptoBulk]
  rw [co25] at hcl
  have hcv : ∃ c, (cs.drop 4).take 1 = [c] ∧ cs[4]? = some c := by
    match cs, hcl with
    | [a, b, c, d, e], _ => exact ⟨e, rfl, rfl⟩
  obtain ⟨c, hc1, hc2⟩ := hcv
  have h4 : DataW.trod enc Tryz.prog W 0 (fun _ => true) true n 23 ((cs.drop 4).take 1) = some (yd, yp) := h4
  rw [hc1] at h4
  have hk : VR W (cx0 W) (.sl (nd.kids.map encNd)) c := hv.2.2 4 _ c (by rw [encNd_eq]; rfl) hc2
  rw [Nd.size_eq, hd]
  suffices hs : (nd.kids.map Nd.size).sum + 1 ≤ uptoBulk yd by
    have : uptoBulk yd ≤ uptoBulkAll (xs.map (·.1)) := hb
    omega
  rcases Go.Deep.open_slice Tryz.underlying23 h4 with ⟨h1, h2⟩ | ⟨a, len, cap, m, n', D, Pl, h1, _, hlc, _, hm, h2, hel⟩
  · injection h1 with h1
    subst h1
    generalize hes : nd.kids.map encNd = es at hk
    cases hk with
    | nils =>
      have : nd.kids = [] := List.map_eq_nil_iff.1 hes
      rw [this]
      exact bulk_one yd
  · injection h1 with h1
    subst h1
    have hm : m = cap := by simpa using hm
    have hyd : yd = .slice ((List.range len).map D) ((List.range (m - len)).map fun j => D (len + j)) := congrArg Prod.fst h2
    rw [hyd]
    simp only [uptoBulk]
    suffices hs : (nd.kids.map Nd.size).sum ≤ uptoBulkAll ((List.range len).map D) by omega
    generalize hes : nd.kids.map encNd = es at hk
    have hkl : nd.kids.length = es.length := by rw [← hes, List.length_map]
    cases hk with
    | nile =>
      have : nd.kids = [] := List.map_eq_nil_iff.1 hes
      rw [this]; simp
    | sl f hI hcap hlen hc hr h1 =>
      have hsum := bulk_sum (n := 0) D (nd.kids.map Nd.size) 0 fun i x hx => ?_
      · rw [List.length_map, hkl] at hsum
        simpa using hsum
      · rw [List.getElem?_map, Option.map_eq_some_iff] at hx
        obtain ⟨k, hki, rfl⟩ := hx
        have hkm := List.mem_of_getElem? hki
        have hil : i < es.length := by rw [← hkl]; exact (List.getElem?_eq_some_iff.1 hki).1
        have hei : es[i]? = some (encNd k) := by rw [← hes, List.getElem?_map, hki]; rfl
        obtain ⟨cs', hc1', hc2'⟩ := hel i (by omega)
        rw [co25] at hc1'
        obtain ⟨_, hcl', hce'⟩ := World.cells?_some hc1'
        rw [Nat.zero_add]
        have hsz := hlen i _ hei
        rw [encNd_len] at hsz
        subst hsz
        have hcell : ∀ j, j < 5 → cs'[j]? = some (f i j) := fun j hj => by
          have h5 := hce' j hj
          rw [Addr.add_lit, Addr.add_lit] at h5
          rw [← h5]; exact hc i j hil hj
        refine ih k hkm n' cs' _ _ hc2' ⟨by rw [encNd_len, hcl'], fun x hx => ?_, fun j v x hv hx => ?_⟩
        · obtain ⟨j, hj⟩ := List.getElem?_of_mem hx
          have hj5 : j < 5 := by rw [← hcl']; exact (List.getElem?_eq_some_iff.1 hj).1
          rw [hcell j hj5] at hj
          injection hj with hj
          rw [← hj]; exact h1 i j hil hj5
        · have hj5 : j < 5 := by rw [← hcl']; exact (List.getElem?_eq_some_iff.1 hx).1
          rw [hcell j hj5] at hx
          injection hx with hx
          rw [← hx]; exact hr i _ j v hei hv
theorem trod_mono {H : Type} {x : DataW H} {l : List (DataW H)} (h : x ∈ l) : uptoBulk x + 1 ≤ uptoBulk (DataW.agg l) := by
 have := bulk_le h
 simp only [uptoBulk]; omega
theorem pat_bulk {H : Type} {enc : TypeId × Value → H} {W : World} {v : Value} {d : DataW H} {ps : List MemPlace} {p : Pat} (h : DataW.Trod enc Tryz.prog W 0 (fun _ => true) true 37 v d ps) (hv : VRs W (cx0 W) (encPat p) v.cells.toList) : p.node.size ≤ uptoBulk d := by
 obtain ⟨fuel, h⟩ := h
 generalize v.cells.toList = cs at h hv
 obtain ⟨xs, n, _, hx, hcl, hxl, hfs⟩ := DataW.trod_struct Tryz.underlying37 h
 simp only [Prod.mk.injEq] at hx
 obtain ⟨rfl, -⟩ := hx
 have h4 := hfs 2 _ rfl
 rw [List.getElem?_eq_getElem (by rw [hxl]; decide)] at h4
 generalize hy : xs[2]'(by rw [hxl]; decide) = y at h4
 have hym : y.1 ∈ xs.map (·.1) := List.mem_map.2 ⟨y, by rw [← hy]; exact List.getElem_mem _, rfl⟩
 obtain ⟨yd, yp⟩ := y
 have hb := trod_mono hym
 have h4 : DataW.trod enc Tryz.prog W 0 (fun _ => true) true n 25 ((cs.drop 2).take (Tryz.prog.cellsOf 25)) = some (yd, yp) := h4
 rw [co25] at h4
 have hn : VRs W (cx0 W) (encNd p.node) ((cs.drop 2).take 5) := by
  rw [co37] at hcl
  refine ⟨by rw [encNd_len]; simp [hcl], fun x hx => hv.2.1 x (List.mem_of_mem_drop (List.mem_of_mem_take hx)), fun j u x hu hx => ?_⟩
  have hj : j < 5 := by rw [← encNd_len p.node]; exact (List.getElem?_eq_some_iff.1 hu).1
  rw [List.getElem?_take, if_pos hj, List.getElem?_drop] at hx
  refine hv.2.2 (2 + j) u x ?_ hx
  have e : encPat p = [.c (.string p.name), .c (.int .i64 p.within)] ++ (encNd p.node ++ [.sl (p.conds.map encC)]) := by rw [encNd_eq]; rfl
  rw [e, List.getElem?_append_right (by simp), show 2 + j - [V.c (.string p.name), .c (.int .i64 p.within)].length = j by simp, List.getElem?_append_left (by rw [encNd_len]; exact hj)]
  exact hu
 have := nd_bulk p.node n _ yd yp h4 hn
 have hb : uptoBulk yd + 1 ≤ uptoBulk (DataW.agg (xs.map (·.1))) := hb
 show p.node.size ≤ uptoBulk (DataW.agg (xs.map (·.1)))
 omega
end Go.Abs.M
namespace Go.Abs.M
open Go Go.Abs Go.Proofs
set_option maxRecDepth 20000
section
variable {H : Type} {enc : TypeId × Value → H} {W : World} {base : Nat} {v : Value} {d : DataW H} {ps : List MemPlace}
theorem arg_int (hval : Value.okWide Tryz.prog W .any base 3 v)
  (h : DataW.Trod enc Tryz.prog W 0 (fun _ => true) true 3 v d ps) (hw : ∀ n ∈ d.weights Tryz.prog 3, n ≤ reachBytes) : ∃ x : Int, VR W (cx0 W) (.c (.int .i64 x)) v ∧ inI64 x := by
 obtain ⟨n, us, h1, h2⟩ := open_arg (P := Tryz.prog) (t := 3) plainTs plain_ok (by decide) h hw
 obtain ⟨s, rfl, hs⟩ := h2.int Tryz.underlying3
 exact ⟨s, VR.of_cell h1 (flat_of (.inl ⟨_, Tryz.underlying3⟩) hval), inI64_of hs⟩
end
end Go.Abs.M
