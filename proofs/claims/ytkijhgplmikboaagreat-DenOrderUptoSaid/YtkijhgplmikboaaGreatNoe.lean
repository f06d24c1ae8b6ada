import Derived.Test.YtkijhgplmikboaaGreatNod
import Derived.Deep.Slices
import Derived.Test.YtkijhgplmikboaaGreatRows
set_option linter.all false
namespace Go.Abs.M
set_option maxHeartbeats 4000000
open Go Go.Abs Go.Proofs
def sA : ByteArray := ⟨#[65]⟩
def sB : ByteArray := ⟨#[66]⟩
def vA : ByteArray := ⟨#[97]⟩
def vB : ByteArray := ⟨#[98]⟩
def nA : Nd := ⟨1, vA, sA, [], []⟩
def nB : Nd := ⟨1, vB, sB, [], []⟩
def nS : Nd := ⟨2, ⟨#[]⟩, ⟨#[]⟩, [], [nA, nB]⟩
def pL : Pat := ⟨⟨#[112]⟩, 5, nS, []⟩
def ev1 : Ev := ⟨0, 0, 1, sA, []⟩
def ev2 : Ev := ⟨1, 0, 3, sB, []⟩
def ev3 : Ev := ⟨1, 1, 9, sB, []⟩
def evL : List Ev := [ev1, ev2, ev3]
def bA1 : Bd := ⟨vA, ev1⟩
def bB2 : Bd := ⟨vB, ev2⟩
def bB3 : Bd := ⟨vB, ev3⟩
theorem eAA : eqS sA sA = true := eqS_iff.2 rfl
theorem eBB : eqS sB sB = true := eqS_iff.2 rfl
theorem eAB : eqS sA sB = false := by simp [eqS, sA, sB]
theorem eBA : eqS sB sA = false := by simp [eqS, sA, sB]
theorem eba : eqS vB vA = false := by simp [eqS, vA, vB]
theorem lab : leS vA vB = true := by simp [vA, vB, leS_one]
theorem lba : leS vB vA = false := by simp [vA, vB, leS_one]
theorem shL : nS.shape = 0 := by rfl
theorem varsA : nA.vars = [vA] := by rfl
theorem varsB : nB.vars = [vB] := by rfl
theorem biL : nS.binds = 0 := by
 rw [Nd.binds_eq]
 show bindsFrom true [] [(nA.binds, nA.vars), (nB.binds, nB.vars)] = 0
 have h1 : nA.binds = 0 := by rw [Nd.binds_eq]; rfl
 have h2 : nB.binds = 0 := by rw [Nd.binds_eq]; rfl
 rw [h1, h2, varsA, varsB]
 simp [bindsFrom, meets, hasS, eba]
theorem badL : evsBad evL = false := by rfl
theorem tA1 : termB nA ev1 = true := by show (true && eqS sA sA && true) = true; rw [eAA]; rfl
theorem tA2 : ¬ termB nA ev2 = true := by show ¬ (true && eqS sB sA && true) = true; rw [eBA]; simp
theorem tA3 : ¬ termB nA ev3 = true := by show ¬ (true && eqS sB sA && true) = true; rw [eBA]; simp
theorem tB1 : ¬ termB nB ev1 = true := by show ¬ (true && eqS sA sB && true) = true; rw [eAB]; simp
theorem tB2 : termB nB ev2 = true := by show (true && eqS sB sB && true) = true; rw [eBB]; rfl
theorem tB3 : termB nB ev3 = true := by show (true && eqS sB sB && true) = true; rw [eBB]; rfl
theorem lfA : leafL nA evL = [[bA1]] := by
 show List.map _ (List.filter (termB nA) [ev1, ev2, ev3]) = _
 rw [List.filter_cons_of_pos tA1, List.filter_cons_of_neg tA2, List.filter_cons_of_neg tA3]; rfl
theorem lfB : leafL nB evL = [[bB2], [bB3]] := by
 show List.map _ (List.filter (termB nB) [ev1, ev2, ev3]) = _
 rw [List.filter_cons_of_neg tB1, List.filter_cons_of_pos tB2, List.filter_cons_of_pos tB3]; rfl
theorem pA1 : partErr [bA1] = 0 := leaf_part (by rfl) (by rfl)
theorem pB2 : partErr [bB2] = 0 := leaf_part (by rfl) (by rfl)
theorem pB3 : partErr [bB3] = 0 := leaf_part (by rfl) (by rfl)
theorem pAB2 : partErr [bA1, bB2] = 0 := by
 rw [part_iff]
 refine ⟨by simp, ?_, ?_⟩
 ·intro b hb
  simp at hb
  rcases hb with rfl | rfl <;> exact ⟨rfl, rfl⟩
 ·simp [Aft, bA1, bB2, lba, idOf, ev1, ev2]
theorem pAB3 : partErr [bA1, bB3] = 0 := by
 rw [part_iff]
 refine ⟨by simp, ?_, ?_⟩
 ·intro b hb
  simp at hb
  rcases hb with rfl | rfl <;> exact ⟨rfl, rfl⟩
 ·simp [Aft, bA1, bB3, lba, idOf, ev1, ev3]
theorem mgAB2 : mg [bA1] [bB2] = some [bA1, bB2] := by
 have e : mrg [bA1] [bB2] = [bA1, bB2] := by rw [mrg, if_pos (by simp [bA1, bB2, lab]), mrg]
 rw [mg, e, if_pos ⟨pA1, pB2, pAB2⟩]
theorem mgAB3 : mg [bA1] [bB3] = some [bA1, bB3] := by
 have e : mrg [bA1] [bB3] = [bA1, bB3] := by rw [mrg, if_pos (by simp [bA1, bB3, lab]), mrg]
 rw [mg, e, if_pos ⟨pA1, pB3, pAB3⟩]
theorem cmpS_refl (a : ByteArray) : cmpS a a = 0 := tri_S.refl a
theorem srtB : SrtL [[bB2], [bB3]] := by
 refine List.pairwise_cons.2 ⟨fun x hx => ?_, List.pairwise_singleton ..⟩
 rw [List.mem_singleton.1 hx]
 simp [cmpL, cmpBd, bB2, bB3, cmpS_refl, ev2, ev3, cmpId, orI, cmpI, idOf]
theorem srtAB : SrtL [[bA1, bB2], [bA1, bB3]] := by
 refine List.pairwise_cons.2 ⟨fun x hx => ?_, List.pairwise_singleton ..⟩
 rw [List.mem_singleton.1 hx]
 simp [cmpL, cmpBd, bA1, bB2, bB3, cmpS_refl, ev1, ev2, ev3, cmpId, orI, cmpI, idOf]
theorem distL : Dist evL := (evsBad_no badL).2
theorem denA : nA.den evL = some [[bA1]] := by
 rw [Nd.den_eq, if_pos (show nA.kind = 1 from rfl), lfA, norm_id (from_apt distL) (fun p hp b hb => ?_) (List.pairwise_singleton ..)]
 rw [List.mem_singleton.1 hp] at hb
 rw [List.mem_singleton.1 hb]; exact List.mem_cons_self
theorem frB : ∀ p ∈ [[bB2], [bB3]], From evL p := fun p hp b hb => by
 simp at hp
 rcases hp with rfl | rfl <;> (rw [List.mem_singleton.1 hb]; simp [evL, bB2, bB3])
theorem denB : nB.den evL = some [[bB2], [bB3]] := by
 rw [Nd.den_eq, if_pos (show nB.kind = 1 from rfl), lfB, norm_id (from_apt distL) frB srtB]
theorem frAB : ∀ p ∈ [[bA1, bB2], [bA1, bB3]], From evL p := fun p hp b hb => by
 simp at hp
 rcases hp with rfl | rfl <;> (simp at hb; rcases hb with rfl | rfl <;> simp [evL, bA1, bB2, bB3])
theorem pairL : pairsL true [[bA1]] [[bB2], [bB3]] = [[bA1, bB2], [bA1, bB3]] := by
 have h2 : late true [bA1] [bB2] = false := by rfl
 have h3 : late true [bA1] [bB3] = false := by rfl
 simp [pairsL, rowL, h2, h3, mgAB2, mgAB3]
theorem denL : nS.den evL = some [[bA1, bB2], [bA1, bB3]] := by
 rw [Nd.den_eq, if_neg (by decide)]
 show denGo 2 none [nA.den evL, nB.den evL] = _
 rw [denA, denB]
 show (capL (norm (stepL 2 [[bA1]] [[bB2], [bB3]]))).bind (fun l => some l) = _
 rw [stepL, if_neg (by decide)]
 show (capL (norm (pairsL true [[bA1]] [[bB2], [bB3]]))).bind (fun l => some l) = _
 rw [pairL, norm_id (from_apt distL) frAB srtAB]; rfl
theorem patL : patErr pL = 0 := by
 have h : patOwn pL = false := by rfl
 rw [patErr, h, if_neg Bool.false_ne_true, if_pos (show pL.node.shape = 0 from shL), if_pos (show pL.node.binds = 0 from biL)]
 rfl
theorem outL : allOut pL (nodeOut nS evL (nS.denP evL)) = ([[bA1, bB2]], 0) := by
 rw [nodeOut_same, (Nd.ref_den distL nS).1, denL, nodeOut, if_pos shL, if_pos biL, if_neg (by decide), badL, if_neg Bool.false_ne_true, optO, allOut, if_pos patL, if_pos rfl]
 rfl
theorem okNd_leaf {v t : ByteArray} (hv : v.size < 4611686018427387904) (ht : t.size < 4611686018427387904) : (Nd.mk 1 v t [] []).ok := by
 rw [Nd.ok_eq]
 exact ⟨⟨hv, ht, (by show 0 < 4611686018427387904; decide), fun c h => by cases h⟩, fun p h => by cases h⟩
theorem okS : nS.ok := by
 rw [Nd.ok_eq]
 refine ⟨⟨by decide, by decide, by decide, fun c h => by cases h⟩, fun p h => ?_⟩
 have h : p ∈ [nA.ok, nB.ok] := h
 rcases List.mem_cons.1 h with rfl | h
 ·exact okNd_leaf (by decide) (by decide)
 ·rw [List.mem_singleton.1 h]; exact okNd_leaf (by decide) (by decide)
theorem okPL : okPat pL := ⟨by decide, by show nS.size ≤ 1048576; rw [show nS.size = 3 from rfl]; decide, okS, by decide, fun c h => by cases h⟩
theorem okE_L : ∀ e ∈ evL, okE e := fun e he => by
 have h : ∀ e ∈ evL, e.type.size < 4611686018427387904 ∧ e.attrs = [] := by decide
 obtain ⟨h1, h2⟩ := h e he
 exact ⟨h1, by rw [h2]; decide, fun a ha => by rw [h2] at ha; cases ha⟩
theorem of_vA : ofB [bA1, bB2] [vA] = [bA1] := by
 have h1 : hasS [vA] bA1.var = true := hasS_iff.2 List.mem_cons_self
 have h2 : ¬ hasS [vA] bB2.var = true := fun h => by have := hasS_iff.1 h; simp [bB2, vA, vB] at this
 rw [ofB, List.filter_cons_of_pos (by exact h1), List.filter_cons_of_neg (by exact h2)]; rfl
theorem of_vB : ofB [bA1, bB2] [vB] = [bB2] := by
 have h1 : ¬ hasS [vB] bA1.var = true := fun h => by have := hasS_iff.1 h; simp [bA1, vA, vB] at this
 have h2 : hasS [vB] bB2.var = true := hasS_iff.2 List.mem_cons_self
 rw [ofB, List.filter_cons_of_neg (by exact h1), List.filter_cons_of_pos (by exact h2)]; rfl
theorem fitsL : nS.fitsP [bA1, bB2] = true := by
 have hA : nA.fitsP [bA1] = true := by
  rw [Nd.fitsP_eq, if_pos (show nA.kind = 1 from rfl)]
  show (eqS vA vA && termB nA ev1) = true
  rw [tA1, eqS_iff.2 rfl]; rfl
 have hB : nB.fitsP [bB2] = true := by
  rw [Nd.fitsP_eq, if_pos (show nB.kind = 1 from rfl)]
  show (eqS vB vB && termB nB ev2) = true
  rw [tB2, eqS_iff.2 rfl]; rfl
 rw [Nd.fitsP_eq, if_neg (show ¬ nS.kind = 1 by decide), if_neg (show ¬ nS.kind = 4 by decide)]
 show allFitP [bA1, bB2] (kidsFitP true [bA1, bB2] (-1) 0 [(nA.fitsP, [vA]), (nB.fitsP, [vB])]) = true
 simp only [kidsFitP, of_vA, of_vB, hA, hB]
 rfl
theorem isL : isP pL [bA1, bB2] = true := by
 rw [isP, Nd.FitsP, decide_eq_true patL, decide_eq_true (show pL.node.shape = 0 from shL), decide_eq_true (show pL.node.binds = 0 from biL), decide_eq_true pAB2, show pL.node.fitsP [bA1, bB2] = true from fitsL]
 rfl
end Go.Abs.M
namespace Go.Abs
open Go
section
variable {P : Program} {σ : Hp} {s : St} {n : Nat} {Q : Exit → St → Hp → Prop}
variable [Mode]
theorem VR.wkSl {w : World} {cx : Cx} {es : List (List V)} {x : Value} (h : VR w cx (.sl es) x) : VR w cx (.sl (es.map (List.map wk1))) x := by
  generalize hv : V.sl es = v at h
  cases h with
  | c x => cases hv
  | nils => injection hv with hv; subst hv; exact .nils
  | nile a => injection hv with hv; subst hv; exact .nile a
  | sl f hI hcap hlen hc hr h1 =>
    injection hv with hv
    subst hv
    have := VR.sl (w := w) (cx := cx) (es := es.map (List.map wk1)) f hI (by simpa using hcap) (fun i e he => by
      rw [List.getElem?_map, Option.map_eq_some_iff] at he
      obtain ⟨e', h', rfl⟩ := he
      rw [List.length_map]; exact hlen i e' h') (fun i j hi hj => hc i j (by simpa using hi) hj) (fun i e j v he hv => by
      rw [List.getElem?_map, Option.map_eq_some_iff] at he
      obtain ⟨e', h', rfl⟩ := he
      rw [List.getElem?_map, Option.map_eq_some_iff] at hv
      obtain ⟨v', hv', rfl⟩ := hv
      exact wk1_VR (hr i e' j v' h' hv')) (fun i j hi hj => h1 i j (by simpa using hi) hj)
    rwa [List.length_map] at this
  | _ => cases hv
def wkD : V → V
  | .sl es => .sl (es.map (List.map wk1))
  | v => wk1 v
theorem wkD_VR {w : World} {cx : Cx} {v : V} {x : Value} (h : VR w cx v x) : VR w cx (wkD v) x := by
 unfold wkD
 split
 ·exact h.wkSl
 ·exact wk1_VR h
def wkA : V → V
  | .agg vs => .agg (vs.map wkD)
  | v => wkD v
theorem wkA_VR {w : World} {cx : Cx} {v : V} {x : Value} (h : VR w cx v x) : VR w cx (wkA v) x := by
  unfold wkA
  split
  · cases h with
    | agg h1 hn hh =>
      refine .agg h1 (by simpa using hn) (fun i v x hv hx => ?_)
      rw [List.getElem?_map, Option.map_eq_some_iff] at hv
      obtain ⟨u, hu, rfl⟩ := hv
      exact wkD_VR (hh i u x hu hx)
  · exact wkD_VR h
theorem ACalls.wkA {f : FuncId} {args : List V} {R : V → Hp → Prop} (h : ACalls P f (args.map Go.Abs.wkA) σ R) : ACalls P f args σ R :=
 ⟨h.1, fun cx w xs hH ha => h.2 cx w xs hH ⟨by simpa using ha.1, fun i v x hv hx => by
  rw [List.getElem?_map, Option.map_eq_some_iff] at hv
  obtain ⟨u, hu, rfl⟩ := hv
  exact wkA_VR (ha.2 i u x hu hx)⟩⟩
end
end Go.Abs
namespace Go.Abs.M
open Go Go.Abs Go.Proofs
set_option maxRecDepth 20000
set_option maxHeartbeats 4000000
def fitN (n : Nd) : Bool := decide (n.terms ≤ 200) && decide (n.deep ≤ 50)
theorem fit_spec (n : Nd) (hn : n.small) : PCalls Tryz.prog 9 [.agg (encNd n)] (fun v => v = .c (.bool (fitN n))) := by
 have q2 : ((n.deep : Int) ≤ 50) = (n.deep ≤ 50) := by rw [eq_iff_iff]; omega
 refine PCalls.intro Tryz.call9 Tryz.func9 rfl Tryz.ntmps9 Tryz.results9 (by simp) ?_
 refine AW.sr @nd ?_
 refine AW.seq_j (fun s' σ' => σ' = Hp.empty ∧ s'.t 2 = .c (.bool (fitN n))) ?_ ?_
 ·by_cases ht : n.terms ≤ 200
  ·have q1 : ((n.terms : Int) ≤ 200) = True := eq_true (by omega)
   refine AW.reg0 ?_
   refine S.one (J3 @nd q1 q2) ?_
   (refine S.g rfl rfl fun Y Z => ?_; simp only [zz, simprocAttr, -Int.reduceNatCast', -Int.reduceToNat, nd, q1, q2]; refine PCalls.eqto (rterms_spec n hn) ?_ <;> (refine Z _ _ ?_; clear Z Y))
   all_goals (refine S.sp (J3 @nd q1 q2) fun b a5 => ?_; cases b <;> (try exact nope a5))
   all_goals iterate 2 refine S.one (J3 @nd q1 q2) ?_
   all_goals (first | (refine S.y rfl rfl rfl rfl fun Y Z => ?_; simp only [zz, simprocAttr, -Int.reduceNatCast', -Int.reduceToNat, nd, q1, q2]; refine PCalls.eqto (rdeep_spec n hn) ?_ <;> (refine Z _ _ ?_; clear Z Y)) | ((first | refine S.x rfl rfl rfl rfl fun Y Z => ?_ | refine S.u rfl rfl rfl rfl fun Y Z => ?_); simp only [ze, simprocAttr, -Int.reduceNatCast', -Int.reduceToNat]; refine Z _ _ ?_; clear Z Y))
   all_goals iterate 3 refine S.one (J3 @nd q1 q2) ?_
   all_goals refine S.nil ?_
   all_goals simp only [ze, simprocAttr, nd, q1, q2]
   all_goals simp_all [fitN]
  ·have q1 : ((n.terms : Int) ≤ 200) = False := eq_false (by omega)
   refine AW.reg0 ?_
   refine S.one (J3 @nd q1 q2) ?_
   (refine S.g rfl rfl fun Y Z => ?_; simp only [zz, simprocAttr, -Int.reduceNatCast', -Int.reduceToNat, nd, q1, q2]; refine PCalls.eqto (rterms_spec n hn) ?_ <;> (refine Z _ _ ?_; clear Z Y))
   all_goals (refine S.sp (J3 @nd q1 q2) fun b a5 => ?_; cases b <;> (try exact nope a5))
   all_goals iterate 2 refine S.one (J3 @nd q1 q2) ?_
   all_goals (first | (refine S.y rfl rfl rfl rfl fun Y Z => ?_; simp only [zz, simprocAttr, -Int.reduceNatCast', -Int.reduceToNat, nd, q1, q2]; refine PCalls.eqto (rdeep_spec n hn) ?_ <;> (refine Z _ _ ?_; clear Z Y)) | ((first | refine S.x rfl rfl rfl rfl fun Y Z => ?_ | refine S.u rfl rfl rfl rfl fun Y Z => ?_); simp only [ze, simprocAttr, -Int.reduceNatCast', -Int.reduceToNat]; refine Z _ _ ?_; clear Z Y))
   all_goals iterate 3 refine S.one (J3 @nd q1 q2) ?_
   all_goals refine S.nil ?_
   all_goals simp only [ze, simprocAttr, nd, q1, q2]
   all_goals (simp_all [fitN] <;> omega)
 rintro s σ ⟨rfl, e2⟩
 refine AW.ret ?_
 all_goals simp only [zs, simprocAttr, e2]
 all_goals ((try and_intros) <;> first | rfl | assumption | (rfl))
def liveC : List V := [.c (.string ⟨#[112]⟩), .c (.int .i64 5), .c (.int .i64 2), .c (.string ⟨#[]⟩), .c (.string ⟨#[]⟩), .c (.slice none 0 0), .sl [[.c (.int .i64 1), .c (.string ⟨#[97]⟩), .c (.string ⟨#[65]⟩), .c (.slice none 0 0), .c (.slice none 0 0)], [.c (.int .i64 1), .c (.string ⟨#[98]⟩), .c (.string ⟨#[66]⟩), .c (.slice none 0 0), .c (.slice none 0 0)]], .c (.slice none 0 0)]
def liveB : List (List V) := [[.c (.string ⟨#[97]⟩), .c (.int .i64 0), .c (.int .i64 0), .c (.int .i64 1), .c (.string ⟨#[65]⟩), .sl []], [.c (.string ⟨#[98]⟩), .c (.int .i64 1), .c (.int .i64 0), .c (.int .i64 3), .c (.string ⟨#[66]⟩), .sl []]]
theorem okP_L : okP [bA1, bB2] := fun b hb => by
 simp at hb
 rcases hb with rfl | rfl
 ·exact ⟨by decide, okE_L ev1 (by simp [evL])⟩
 ·exact ⟨by decide, okE_L ev2 (by simp [evL])⟩
theorem live_spec : PCalls Tryz.prog 10 [] (fun v => v = .c (.bool true)) := by
 have hall := All_P pL okPL evL (by decide) okE_L
 rw [show pL.node = nS from rfl, outL] at hall
 refine ACalls.bare (R := fun v _ => v = .c (.bool true)) (ACalls.intro Tryz.call10 Tryz.func10 rfl Tryz.ntmps10 Tryz.results10 (by simp) ?_) fun _ _ h => h
 refine AW.sr trivial ?_
 refine AW.seq_k fun K2 h2 => ?_
 refine AW.reg0 ?_
 iterate 2 refine S.one trivial ?_
 (refine S.g rfl rfl fun Y Z => ?_; simp only [zb, simprocAttr, -Int.reduceNatCast', -Int.reduceToNat, tt]; refine ⟨rfl, (by simp), ?_⟩ <;> (refine Z _ _ ?_; clear Z Y))
 all_goals iterate 4 refine S.one trivial ?_
 all_goals (refine S.nil ?_; simp only [ze, simprocAttr]; apply_assumption)
 refine AW.seq_k fun K3 h3 => ?_
 all_goals refine AW.reg0 ?_
 all_goals iterate 6 refine S.one trivial ?_
 all_goals (refine S.g rfl rfl fun Y Z => ?_; simp only [zb, simprocAttr, -Int.reduceNatCast', -Int.reduceToNat, tt]; refine ⟨rfl, (by simp), ?_⟩ <;> (refine Z _ _ ?_; clear Z Y))
 all_goals (refine S.g rfl rfl fun Y Z => ?_; simp only [zz, simprocAttr, -Int.reduceNatCast', -Int.reduceToNat]; (refine ACalls.wkA (ACalls.to hall ?_); rintro _ σ1 ⟨u, rfl, hown, hok, hlen⟩) <;> (refine Z _ _ ?_; clear Z Y))
 all_goals iterate 5 refine S.one trivial ?_
 all_goals (refine S.nil ?_; simp only [ze, simprocAttr]; apply_assumption)
 rcases hown with ⟨_, hl, _⟩ | ⟨k, rfl, _, rfl⟩
 ·cases hl
 refine AW.gen (fun s' => s'.t 1 = .lp 1 0 ∧ s'.l 1 = some liveC ∧ s'.t 2 = .gl k ∧ s'.t 3 = .c (.int .i64 0)) ?_ ?_
 ·simp only [zs, simprocAttr]
  all_goals ((try and_intros) <;> first | rfl | assumption | (rfl))
 rintro s ⟨e1, l1, e2, e3⟩
 refine AW.freeze (k := k) (T := (40, 1)) (es := [[bA1, bB2]].map encP) (by simp [hpP]) ?_
 have hem : (hpP Hp.empty k [[bA1, bB2]]).setGr k none = Hp.empty := by simp [hpP]
 rw [hem]
 have f1 : (s.fz k ([[bA1, bB2]].map encP)).t 1 = .lp 1 0 := by simp [e1, fzV, fz1]
 have f2 : (s.fz k ([[bA1, bB2]].map encP)).t 2 = .sl [[.sl liveB]] := by simp [e2, fzV, fz1]; rfl
 have f3 : (s.fz k ([[bA1, bB2]].map encP)).t 3 = .c (.int .i64 0) := by simp [e3, fzV, fz1]
 have m1 : (s.fz k ([[bA1, bB2]].map encP)).l 1 = some liveC := by simp [l1]; rfl
 generalize s.fz k ([[bA1, bB2]].map encP) = s at *
 have his := Is_spec pL [bA1, bB2] okPL okP_L (fun b hb => by simp at hb; rcases hb with rfl | rfl <;> decide) (by decide) (fun b hb => by simp at hb; rcases hb with rfl | rfl <;> (unfold inI64; decide)) (by unfold inI64; decide)
 rw [isL, show [bA1, bB2].map encBd = liveB from rfl] at his
 have h01 : ((0 : Int) < ((1 : Nat) : Int)) = True := eq_true (by decide)
 have h12 : ((1 : Int) < ((2 : Nat) : Int)) = True := eq_true (by decide)
 have h22 : (((2 : Nat) : Int) == 2) = true := rfl
 have h11 : (((1 : Nat) : Int) == 1) = true := rfl
 unfold liveB at his f2
 unfold liveC at m1
 refine AW.seq_k fun K4 h4 => ?_
 all_goals refine AW.dv { sd := fun d => d == 1 } [(0,0),(1,0),(2,0),(3,0),(4,0),(5,0),(6,0),(7,0),(8,0),(9,0),(10,0),(11,1),(12,0),(13,0),(14,0),(15,0),(16,0),(17,0),(18,0),(19,1),(20,0),(21,0),(22,0),(23,1),(24,0),(25,0),(26,0),(28,0),(29,0),(27,1),(30,1),(31,2),(32,0),(33,0)] ?_
 all_goals have q1q := J12 f1 m1 f2 f3 h01 h12 h22 h11 @Int.le_refl @Int.toNat_zero @Nat.zero_lt_one (J6 @Nat.lt_add_one @List.length_cons.{0} @List.length_nil.{0} @List.getD_cons_zero.{0} @List.getD_cons_succ.{0} @Int.toNat_one)
 all_goals (refine D.g rfl trivial rfl rfl fun Y Z => ?_; simp only [zz, simprocAttr, -Int.reduceNatCast', -Int.reduceToNat, q1q]; refine Z _ _ ?_; clear Z Y)
 all_goals (refine D.sp q1q fun b a21 => ?_; cases b <;> (try exact nope a21))
 all_goals have q2q := J12 f1 m1 f2 f3 h01 h12 h22 h11 @Int.le_refl @Int.toNat_zero @Nat.zero_lt_one (J6 @Nat.lt_add_one @List.length_cons.{0} @List.length_nil.{0} @List.getD_cons_zero.{0} @List.getD_cons_succ.{0} @Int.toNat_one)
 all_goals iterate 3 ((first | refine D.g rfl trivial rfl rfl fun Y Z => ?_ | refine D.y rfl trivial rfl rfl rfl rfl fun Y Z => ?_ | refine D.x rfl (fun h => by cases h) rfl rfl rfl rfl fun Y Z => ?_ | refine D.u rfl (fun h => by cases h) rfl rfl rfl rfl fun Y Z => ?_); simp only [zz, simprocAttr, -Int.reduceNatCast', -Int.reduceToNat, tt, q2q]; refine Z _ _ ?_; clear Z Y)
 all_goals (first | (refine D.sp q2q fun b a25 => ?_; cases b <;> (try exact nope a25)) | ((first | refine D.x rfl (fun h => by cases h) rfl rfl rfl rfl fun Y Z => ?_ | refine D.u rfl (fun h => by cases h) rfl rfl rfl rfl fun Y Z => ?_); simp only [ze, simprocAttr, -Int.reduceNatCast', -Int.reduceToNat]; refine Z _ _ ?_; clear Z Y))
 all_goals iterate 5 ((first | refine D.g rfl trivial rfl rfl fun Y Z => ?_ | refine D.y rfl trivial rfl rfl rfl rfl fun Y Z => ?_ | refine D.x rfl (fun h => by cases h) rfl rfl rfl rfl fun Y Z => ?_ | refine D.u rfl (fun h => by cases h) rfl rfl rfl rfl fun Y Z => ?_); simp only [zz, simprocAttr, -Int.reduceNatCast', -Int.reduceToNat, f1, m1, f2, f3, h01, h12, h22, h11, Int.le_refl, Int.toNat_zero, Nat.zero_lt_one, Nat.lt_add_one, List.length_cons, List.length_nil, List.getD_cons_zero, List.getD_cons_succ, Int.reduceLE, Int.reduceLT, Int.reduceToNat, Int.toNat_one, tt]; refine Z _ _ ?_; clear Z Y)
 all_goals ((first | refine D.y rfl (by first | rfl | (simp only [stC, ze, simprocAttr, -Int.reduceNatCast', -Int.reduceToNat, f1, m1, f2, f3, h01, h12, h22, h11, Int.le_refl, Int.toNat_zero, Nat.zero_lt_one, Nat.lt_add_one, List.length_cons, List.length_nil, List.getD_cons_zero, List.getD_cons_succ, Int.reduceLE, Int.reduceLT, Int.reduceToNat, Int.toNat_one]; first | done | rfl)) rfl rfl rfl rfl fun Y Z => ?_ | refine D.x rfl (fun _ => rfl) rfl rfl rfl rfl fun Y Z => ?_ | refine D.u rfl (fun _ => rfl) rfl rfl rfl rfl fun Y Z => ?_); simp only [zz, simprocAttr, -Int.reduceNatCast', -Int.reduceToNat, tt, f1, m1, f2, f3, h01, h12, h22, h11, Int.le_refl, Int.toNat_zero, Nat.zero_lt_one, Nat.lt_add_one, List.length_cons, List.length_nil, List.getD_cons_zero, List.getD_cons_succ, Int.reduceLE, Int.reduceLT, Int.reduceToNat, Int.toNat_one]; refine Z _ _ ?_; clear Z Y)
 all_goals have q3q := J12 f1 m1 f2 f3 h01 h12 h22 h11 @Int.le_refl @Int.toNat_zero @Nat.zero_lt_one (J6 @Nat.lt_add_one @List.length_cons.{0} @List.length_nil.{0} @List.getD_cons_zero.{0} @List.getD_cons_succ.{0} @Int.toNat_one)
 all_goals ((first | refine D.y rfl trivial rfl rfl rfl rfl fun Y Z => ?_ | refine D.x rfl (fun h => by cases h) rfl rfl rfl rfl fun Y Z => ?_ | refine D.u rfl (fun h => by cases h) rfl rfl rfl rfl fun Y Z => ?_); simp only [zz, simprocAttr, -Int.reduceNatCast', -Int.reduceToNat, tt, q3q]; refine Z _ _ ?_; clear Z Y)
 all_goals (first | (refine D.sp q3q fun b a33 => ?_; cases b <;> (try exact nope a33)) | ((first | refine D.x rfl (fun h => by cases h) rfl rfl rfl rfl fun Y Z => ?_ | refine D.u rfl (fun h => by cases h) rfl rfl rfl rfl fun Y Z => ?_); simp only [ze, simprocAttr, -Int.reduceNatCast', -Int.reduceToNat]; refine Z _ _ ?_; clear Z Y))
 all_goals iterate 5 ((first | refine D.g rfl trivial rfl rfl fun Y Z => ?_ | refine D.y rfl trivial rfl rfl rfl rfl fun Y Z => ?_ | refine D.x rfl (fun h => by cases h) rfl rfl rfl rfl fun Y Z => ?_ | refine D.u rfl (fun h => by cases h) rfl rfl rfl rfl fun Y Z => ?_); simp only [zz, simprocAttr, -Int.reduceNatCast', -Int.reduceToNat, f1, m1, f2, f3, h01, h12, h22, h11, Int.le_refl, Int.toNat_zero, Nat.zero_lt_one, Nat.lt_add_one, List.length_cons, List.length_nil, List.getD_cons_zero, List.getD_cons_succ, Int.reduceLE, Int.reduceLT, Int.reduceToNat, Int.toNat_one, tt]; refine Z _ _ ?_; clear Z Y)
 all_goals ((first | refine D.y rfl (by first | rfl | (simp only [stC, ze, simprocAttr, -Int.reduceNatCast', -Int.reduceToNat, f1, m1, f2, f3, h01, h12, h22, h11, Int.le_refl, Int.toNat_zero, Nat.zero_lt_one, Nat.lt_add_one, List.length_cons, List.length_nil, List.getD_cons_zero, List.getD_cons_succ, Int.reduceLE, Int.reduceLT, Int.reduceToNat, Int.toNat_one]; first | done | rfl)) rfl rfl rfl rfl fun Y Z => ?_ | refine D.x rfl (fun _ => rfl) rfl rfl rfl rfl fun Y Z => ?_ | refine D.u rfl (fun _ => rfl) rfl rfl rfl rfl fun Y Z => ?_); simp only [zz, simprocAttr, -Int.reduceNatCast', -Int.reduceToNat, tt, f1, m1, f2, f3, h01, h12, h22, h11, Int.le_refl, Int.toNat_zero, Nat.zero_lt_one, Nat.lt_add_one, List.length_cons, List.length_nil, List.getD_cons_zero, List.getD_cons_succ, Int.reduceLE, Int.reduceLT, Int.reduceToNat, Int.toNat_one]; refine Z _ _ ?_; clear Z Y)
 all_goals iterate 3 ((first | refine D.y rfl trivial rfl rfl rfl rfl fun Y Z => ?_ | refine D.x rfl (fun h => by cases h) rfl rfl rfl rfl fun Y Z => ?_ | refine D.u rfl (fun h => by cases h) rfl rfl rfl rfl fun Y Z => ?_); simp only [zz, simprocAttr, -Int.reduceNatCast', -Int.reduceToNat, tt, f1, m1, f2, f3, h01, h12, h22, h11, Int.le_refl, Int.toNat_zero, Nat.zero_lt_one, Nat.lt_add_one, List.length_cons, List.length_nil, List.getD_cons_zero, List.getD_cons_succ, Int.reduceLE, Int.reduceLT, Int.reduceToNat, Int.toNat_one]; refine Z _ _ ?_; clear Z Y)
 all_goals have q4q := J12 f1 m1 f2 f3 h01 h12 h22 h11 @Int.le_refl @Int.toNat_zero @Nat.zero_lt_one (J6 @Nat.lt_add_one @List.length_cons.{0} @List.length_nil.{0} @List.getD_cons_zero.{0} @List.getD_cons_succ.{0} @Int.toNat_one)
 all_goals ((first | refine D.y rfl (by first | rfl | (simp only [stC, ze, simprocAttr, -Int.reduceNatCast', -Int.reduceToNat, f1, m1, f2, f3, h01, h12, h22, h11, Int.le_refl, Int.toNat_zero, Nat.zero_lt_one, Nat.lt_add_one, List.length_cons, List.length_nil, List.getD_cons_zero, List.getD_cons_succ, Int.reduceLE, Int.reduceLT, Int.reduceToNat, Int.toNat_one]; first | done | rfl)) rfl rfl rfl rfl fun Y Z => ?_ | refine D.x rfl (fun _ => rfl) rfl rfl rfl rfl fun Y Z => ?_ | refine D.u rfl (fun _ => rfl) rfl rfl rfl rfl fun Y Z => ?_); simp only [zz, simprocAttr, -Int.reduceNatCast', -Int.reduceToNat, tt, q4q]; refine Z _ _ ?_; clear Z Y)
 all_goals (first | (refine D.sp q4q fun b a44 => ?_; cases b <;> (try exact nope a44)) | ((first | refine D.x rfl (fun h => by cases h) rfl rfl rfl rfl fun Y Z => ?_ | refine D.u rfl (fun h => by cases h) rfl rfl rfl rfl fun Y Z => ?_); simp only [ze, simprocAttr, -Int.reduceNatCast', -Int.reduceToNat]; refine Z _ _ ?_; clear Z Y))
 all_goals iterate 4 ((first | refine D.g rfl trivial rfl rfl fun Y Z => ?_ | refine D.y rfl trivial rfl rfl rfl rfl fun Y Z => ?_ | refine D.x rfl (fun h => by cases h) rfl rfl rfl rfl fun Y Z => ?_ | refine D.u rfl (fun h => by cases h) rfl rfl rfl rfl fun Y Z => ?_); simp only [zz, simprocAttr, -Int.reduceNatCast', -Int.reduceToNat, f1, m1, f2, f3, h01, h12, h22, h11, Int.le_refl, Int.toNat_zero, Nat.zero_lt_one, Nat.lt_add_one, List.length_cons, List.length_nil, List.getD_cons_zero, List.getD_cons_succ, Int.reduceLE, Int.reduceLT, Int.reduceToNat, Int.toNat_one, tt]; refine Z _ _ ?_; clear Z Y)
 all_goals iterate 2 ((first | refine D.y rfl (by first | rfl | (simp only [stC, ze, simprocAttr, -Int.reduceNatCast', -Int.reduceToNat, f1, m1, f2, f3, h01, h12, h22, h11, Int.le_refl, Int.toNat_zero, Nat.zero_lt_one, Nat.lt_add_one, List.length_cons, List.length_nil, List.getD_cons_zero, List.getD_cons_succ, Int.reduceLE, Int.reduceLT, Int.reduceToNat, Int.toNat_one]; first | done | rfl)) rfl rfl rfl rfl fun Y Z => ?_ | refine D.x rfl (fun _ => rfl) rfl rfl rfl rfl fun Y Z => ?_ | refine D.u rfl (fun _ => rfl) rfl rfl rfl rfl fun Y Z => ?_); simp only [zz, simprocAttr, -Int.reduceNatCast', -Int.reduceToNat, tt, f1, m1, f2, f3, h01, h12, h22, h11, Int.le_refl, Int.toNat_zero, Nat.zero_lt_one, Nat.lt_add_one, List.length_cons, List.length_nil, List.getD_cons_zero, List.getD_cons_succ, Int.reduceLE, Int.reduceLT, Int.reduceToNat, Int.toNat_one]; refine Z _ _ ?_; clear Z Y)
 all_goals (first | (refine D.y rfl trivial rfl rfl rfl rfl fun Y Z => ?_; simp only [zz, simprocAttr, -Int.reduceNatCast', -Int.reduceToNat, f1, m1, f2, f3, h01, h12, h22, h11, Int.le_refl, Int.toNat_zero, Nat.zero_lt_one, Nat.lt_add_one, List.length_cons, List.length_nil, List.getD_cons_zero, List.getD_cons_succ, Int.reduceLE, Int.reduceLT, Int.reduceToNat, Int.toNat_one]; (refine ACalls.wkA (PCalls.eqto his ?_)) <;> (refine Z _ _ ?_; clear Z Y)) | ((first | refine D.x rfl (fun h => by cases h) rfl rfl rfl rfl fun Y Z => ?_ | refine D.u rfl (fun h => by cases h) rfl rfl rfl rfl fun Y Z => ?_); simp only [ze, simprocAttr, -Int.reduceNatCast', -Int.reduceToNat]; refine Z _ _ ?_; clear Z Y))
 all_goals iterate 2 (refine D.g rfl trivial rfl rfl fun Y Z => ?_; simp only [zz, simprocAttr, -Int.reduceNatCast', -Int.reduceToNat, f1, m1, f2, f3, h01, h12, h22, h11, Int.le_refl, Int.toNat_zero, Nat.zero_lt_one, Nat.lt_add_one, List.length_cons, List.length_nil, List.getD_cons_zero, List.getD_cons_succ, Int.reduceLE, Int.reduceLT, Int.reduceToNat, Int.toNat_one]; refine Z _ _ ?_; clear Z Y)
 all_goals (refine D.nil ?_; apply_assumption)
 refine AW.ret ?_
 all_goals simp only [zs, simprocAttr]
 all_goals ((try and_intros) <;> first | rfl | assumption | (rfl))
theorem evsBad_iff {l : List Ev} : evsBad l = false ↔ (∀ e ∈ l, evErr e = 0) ∧ Dist l := by
 refine ⟨evsBad_no, fun ⟨h1, h2⟩ => ?_⟩
 rw [evsBad, List.any_eq_false]
 intro i hi
 have hi := List.mem_range.1 hi
 have e : l.getD i noEv = l[i] := by rw [List.getD_eq_getElem?_getD, List.getElem?_eq_getElem hi]; rfl
 rw [badAt, e, h1 _ (List.getElem_mem hi)]
 simp only [beq_self_eq_true, Bool.not_true, Bool.false_or]
 intro hc
 rw [clashAt, List.any_eq_true] at hc
 obtain ⟨j, hj, hs⟩ := hc
 have hj := List.mem_range.1 hj
 have e' : l.getD j noEv = l[j] := by rw [List.getD_eq_getElem?_getD, List.getElem?_eq_getElem (by omega)]; rfl
 rw [e, e'] at hs
 simp only [sameEv, Bool.and_eq_true, beq_iff_eq] at hs
 rw [Dist, List.pairwise_iff_getElem] at h2
 exact h2 j i (by omega) hi hj hs
theorem dist_perm {a b : List Ev} (h : a.Perm b) (hd : Dist a) : Dist b := by
 unfold Dist at *
 exact h.pairwise hd fun h k => h ⟨k.1.symm, k.2.symm⟩
theorem evsBad_perm {a b : List Ev} (h : a.Perm b) : evsBad a = evsBad b := by
 have key : ∀ {a b : List Ev}, a.Perm b → evsBad a = false → evsBad b = false := fun h k => by
  obtain ⟨h1, h2⟩ := evsBad_iff.1 k
  exact evsBad_iff.2 ⟨fun e he => h1 e (h.mem_iff.2 he), dist_perm h h2⟩
 cases ha : evsBad a
 ·exact (key h ha).symm
 ·cases hb : evsBad b
  ·rw [key h.symm hb] at ha; cases ha
  ·rfl
theorem Nd.den_perm {a b : List Ev} (h : ∀ e, e ∈ a ↔ e ∈ b) (hd : Dist a) : ∀ n : Nd, n.den a = n.den b := Nd.ind fun n ih => by
 rw [Nd.den_eq, Nd.den_eq]
 split
 ·congr 1
  refine norm_ext (from_apt hd) (leafL_from n a) (fun p hp b' hb => (h _).2 (leafL_from n b p hp b' hb)) fun p => ?_
  simp only [leafL, List.mem_map, List.mem_filter, h]
 ·rw [show n.kids.map (Nd.den a) = n.kids.map (Nd.den b) from List.map_congr_left fun x hx => ih x hx]
theorem nodeOut_perm {a b : List Ev} (h : a.Perm b) (n : Nd) : nodeOut n a (n.denP a) = nodeOut n b (n.denP b) := by
 rw [nodeOut_same, nodeOut_same]
 unfold nodeOut
 split
 ·split
  ·rw [h.length_eq, evsBad_perm h]
   split
   ·rfl
   ·split
    ·rfl
    ·rename_i h1 h2
     have hb := evsBad_no (by simpa using h2)
     have hd := dist_perm h.symm hb.2
     rw [(Nd.ref_den hd n).1, (Nd.ref_den hb.2 n).1, Nd.den_perm (fun e => h.mem_iff) hd n]
  ·rfl
 ·rfl
theorem allOut_perm {a b : List Ev} (h : a.Perm b) (p : Pat) : allOut p (nodeOut p.node a (p.node.denP a)) = allOut p (nodeOut p.node b (p.node.denP b)) := by rw [nodeOut_perm h]
def hpE (k : Nat) (l : List Ev) : Hp := Hp.empty.setGr k (some ((48, 5), l.map encEv))
theorem len_ev (l : List Ev) : ∀ (e : List V), e ∈ l.map encEv → e.length = 5 := fun e he => by
 obtain ⟨a, _, rfl⟩ := List.mem_map.1 he; rfl
theorem CloneE_spec (l : List Ev) (hl : l.length * 64 ≤ 140737488351232) : ACalls Tryz.prog 27 [.sl (l.map encEv)] Hp.empty (fun v σ' => (v = .sl [] ∧ l = [] ∧ σ' = Hp.empty) ∨ ∃ k, v = .gl k ∧ σ' = hpE k l) := by
 have y1 : (l.length ≤ maxLen) = True := eq_true (by unfold maxLen; omega)
 have y2 : (l.length * 64 ≤ reach) = True := eq_true (by unfold reach; omega)
 have z1 : (∀ (e : List V), e ∈ l.map encEv → e.length = 5) = True := eq_true (len_ev l)
 refine ACalls.intro Tryz.call27 Tryz.func27 rfl Tryz.ntmps27 Tryz.results27 (by simp) ?_
 refine AW.sr trivial ?_
 refine AW.seq_j (fun s' σ' => σ' = Hp.empty ∧ s'.t 0 = .sl (l.map encEv)) ?_ ?_
 ·refine AW.seq_j (fun s' σ' => σ' = Hp.empty ∧ s'.t 0 = .sl (l.map encEv) ∧ ∃ b, s'.t 4 = .c (.bool b) ∧ (b = true → l = [])) ?_ ?_
  ·skip
   refine AW.reg0 ?_
   refine S.one trivial ?_
   (refine S.g rfl rfl fun Y Z => ?_; simp only [zz, simprocAttr, -Int.reduceNatCast', -Int.reduceToNat, tt]; refine ⟨fun hne => ?_, fun hz b => ?_⟩ <;> (refine Z _ _ ?_; clear Z Y))
   all_goals refine S.nil ?_
   all_goals simp only [ze, simprocAttr]
   ·exact ⟨_, rfl, fun h => by cases h⟩
   ·exact ⟨_, rfl, fun _ => hz⟩
  rintro s σ ⟨rfl, e0, b, e4, hb⟩
  refine AW.cond (b := b) e4 (fun hc => ?_) (fun hc => AW.skip ?_)
  ·refine AW.sr trivial ?_
   refine AW.ret ?_
   simp only [zs, simprocAttr]
   exact .inl (hb hc)
  ·simp only [zs, simprocAttr]
   exact e0
 rintro s σ ⟨rfl, e0⟩
 refine AW.seq_k fun K3 h3 => ?_
 all_goals refine AW.region (T := { own := fun d => d == 5 }) (fun _ _ h => by cases h) rfl ?_
 all_goals (refine S.g rfl rfl fun Y Z => ?_; simp only [zb, simprocAttr, -Int.reduceNatCast', -Int.reduceToNat, tt, e0]; intro k1 hk1 <;> (refine Z _ _ ?_; clear Z Y))
 all_goals refine S.one e0 ?_
 all_goals (refine S.g rfl rfl fun Y Z => ?_; simp only [zz, simprocAttr, -Int.reduceNatCast', -Int.reduceToNat, tt, e0]; refine ⟨len_ev l, by unfold maxLen; omega, by unfold reach; omega, fun k2 hk2 => ?_⟩ <;> (refine Z _ _ ?_; clear Z Y))
 all_goals refine S.one e0 ?_
 all_goals (refine S.nil ?_; simp only [ze, simprocAttr, e0]; apply_assumption)
 refine AW.ret ?_
 all_goals simp only [zs, simprocAttr]
 exact .inr ⟨k2, rfl, by simp [hpE]⟩
def Turned (l es : List Ev) (i : Nat) : Prop := es.length = l.length ∧ ∀ x, x < l.length → es[x]? = if x < i ∨ l.length - i ≤ x then l[l.length - 1 - x]? else l[x]?
theorem Turned.step {l es : List Ev} {i : Nat} {a b : Ev} (h : Turned l es i) (hi : i < l.length - 1 - i) (ha : es[i]? = some a) (hb : es[l.length - 1 - i]? = some b) : Turned l ((es.set i b).set (l.length - 1 - i) a) (i + 1) := by
 obtain ⟨h1, h2⟩ := h
 refine ⟨by simp [h1], fun x hx => ?_⟩
 have ga : l[i]? = some a := by
  have := h2 i (by omega)
  rw [if_neg (by omega)] at this
  rw [← this, ha]
 have gb : l[l.length - 1 - i]? = some b := by
  have := h2 (l.length - 1 - i) (by omega)
  rw [if_neg (by omega)] at this
  rw [← this, hb]
 rw [List.getElem?_set]
 split
 ·rename_i e
  subst e
  rw [if_pos (by simp [h1]; omega), if_pos (by omega), show l.length - 1 - (l.length - 1 - i) = i by omega, ga]
 ·rename_i e1
  rw [List.getElem?_set]
  split
  ·rename_i e
   subst e
   rw [if_pos (by omega), if_pos (by omega), gb]
  ·rename_i e2
   rw [h2 x hx]
   by_cases h : x < i ∨ l.length - i ≤ x
   ·rw [if_pos h, if_pos (by omega)]
   ·rw [if_neg h, if_neg (by omega)]
theorem Turned.done {l es : List Ev} {i : Nat} (h : Turned l es i) (hi : ¬ (i : Int) < (l.length : Int) - 1 - i) : es = l.reverse := by
 obtain ⟨h1, h2⟩ := h
 apply List.ext_getElem?
 intro x
 by_cases hx : x < l.length
 ·rw [h2 x hx, List.getElem?_reverse hx]
  split
  ·rfl
  ·rename_i h
   congr 1
   omega
 ·rw [List.getElem?_eq_none (by omega), List.getElem?_eq_none (by simp; omega)]
theorem Reverse_spec (k : Nat) (l : List Ev) (hl : l.length < 4611686018427387904) : ACalls Tryz.prog 28 [.gl k] (hpE k l) (fun v σ' => v = .tup [] ∧ σ' = hpE k l.reverse) := by
  have ho : (hpE k l).gr k = some ((48, 5), l.map encEv) := by simp [hpE]
  have hw0 : IntKind.i64.wrap ((l.length : Int) - 1) = (l.length : Int) - 1 := by rw [IntKind.wrap_i64]; omega
  refine ACalls.intro Tryz.call28 Tryz.func28 rfl Tryz.ntmps28 Tryz.results28 (by simp) ?_
  refine AW.sr (J3 ho hw0 @List.length_map.{0,0}) ?_
  refine AW.block ?_   -- 0
  refine AW.loop (fun m s σ => ∃ (i : Nat) (es : List Ev), m + i = l.length ∧ Turned l es i ∧ σ = hpE k es ∧ s.t 0 = .gl k ∧ s.t 2 = .c (.int .i64 (i : Nat)) ∧ s.t 3 = .c (.int .i64 ((l.length : Int) - 1 - i))) l.length ?_ ?_
  · refine ⟨0, l, by simp, ⟨rfl, fun x hx => by rw [if_neg (by omega)]⟩, rfl, ?_⟩
    simp only [zs, simprocAttr]
    all_goals ((try and_intros) <;> first | rfl | assumption | (simp))
  rintro m s σ ⟨i, es, hm, hT, rfl, e0, e2, e3⟩
  refine AW.seq_k fun K2 h2 => ?_
  all_goals refine AW.sr (J2 e2 e3) ?_
  refine AW.cond (b := decide ((i : Int) < (l.length : Int) - 1 - i)) (by simp [ev]) (fun hi => ?_) (fun hi => ?_)
  · have hi := of_decide_eq_true hi
    have hel := hT.1
    have hi' : i < l.length - 1 - i := by omega
    have hj : (l.length : Int) - 1 - i = ((l.length - 1 - i : Nat) : Int) := by omega
    have hst := fun (a b : Ev) => hT.step (a := a) (b := b) hi'
    rw [hj] at e3
    have hi1 : i < es.length := by omega
    have hj1 : l.length - 1 - i < es.length := by omega
    have hwi : IntKind.i64.wrap ((i : Int) + 1) = ((i + 1 : Nat) : Int) := by rw [wrap_small _ (by omega) (by omega)]; rfl
    have hwj : IntKind.i64.wrap (((l.length - 1 - i : Nat) : Int) - 1) = (l.length : Int) - 1 - ((i + 1 : Nat) : Int) := by rw [wrap_small _ (by omega) (by omega)]; omega
    generalize l.length - 1 - i = j at *
    have hg1 := getD_map (f := encEv) hi1
    have hg2 := getD_map (f := encEv) hj1
    have hx : es[i]? = some es[i] := List.getElem?_eq_getElem hi1
    have hy : es[j]? = some es[j] := List.getElem?_eq_getElem hj1
    generalize es[i] = a at hg1 hx
    generalize es[j] = b at hg2 hy
    have hst := hst a b hx hy
    have hgs : ∀ v, ((es.map encEv).set i v).getD j [] = encEv b := fun v => by
      rw [← hg2]; simp [List.getD, List.getElem?_set, show i ≠ j by omega]
    have hpk : hpE k es = Hp.empty.setGr k (some ((48, 5), es.map encEv)) := rfl
    rw [hpk]
    refine AW.skip ?_
    simp only [zs, simprocAttr]
    all_goals apply_assumption
    refine AW.seq_k fun K4 h4 => ?_
    refine AW.block ?_   -- 1
    refine AW.mono (Q := thenS (fun s' σ' => σ' = hpE k ((es.set i b).set j a) ∧ s'.t 0 = .gl k ∧ s'.t 2 = .c (.int .i64 (i : Nat)) ∧ s'.t 3 = .c (.int .i64 (j : Nat))) (fun _ _ _ => False)) ?_ ?_
    · skip
      refine AW.draw2 (T := { sd := fun _ => false }) (fun _ _ h => by cases h) mixedO [(0, 0), (1, 0), (2, 0), (3, 0), (4, 0), (5, 0), (6, 0), (8, 0), (9, 0), (10, 0)] 7 11 [(12, 0), (13, 2), (14, 0), (15, 2)] #[true, true, true, true, true, true, true, false, true, true, true, false, false, false, false, false] rfl (by kernel_rfl) (by kernel_rfl) (by kernel_rfl) (by kernel_rfl) (by kernel_rfl) ?_
      all_goals have q1q := J10 e0 e2 e3 hi1 hj1 hg1 hg2 hgs @encEv.eq_1 @List.length_set.{0}
      all_goals iterate 10 refine D.one q1q ?_
      all_goals refine D.nil ⟨?_, ?_⟩
      all_goals iterate 6 refine D.one q1q ?_
      all_goals refine D.nil ?_
      all_goals simp only [ze, simprocAttr, q1q]
      all_goals simp [hpE, encEv, List.map_set]
    rintro e s4 σ4 hq
    cases e with
    | normal =>
      obtain ⟨rfl, f0, f2, f3⟩ := hq
      simp only [zs, simprocAttr]
      all_goals apply_assumption
      have q2q := J4 f2 f3 hwi hwj
      refine AW.reg0 (S.rn q2q ?_)
      simp only [ze, simprocAttr, q2q]
      exact ⟨m - 1, by omega, i + 1, _, by omega, hst, rfl, f0, rfl, rfl⟩
    | _ => exact hq.elim
  · have hi := of_decide_eq_false hi
    refine AW.exit ?_
    simp only [zs, simprocAttr]
    all_goals ((try and_intros) <;> first | rfl | assumption | ((rw [hT.done hi])))
def OwnE (l : List Ev) (v : V) (σ : Hp) : Prop := (v = .sl [] ∧ l = [] ∧ σ = Hp.empty) ∨ ∃ k, v = .gl k ∧ σ = hpE k l
theorem AW.heldE {P : Program} {n : Nat} {c : Code} {Q : Exit → St → Hp → Prop} {s : St} {σ : Hp} {i : Nat} {l : List Ev} (h : OwnE l (s.t i) σ)
  (hk : ∀ s' : St, s'.t i = .sl (l.map encEv) → (∀ j v, s.t j = v → (∀ k es, fzV k es v = v) → s'.t j = v) →
   (∀ d cs, s.l d = some cs → (∀ k es, cs.map (fz1 k es) = cs) → s'.l d = some cs) → AW P n c Q s' Hp.empty) : AW P n c Q s σ := by
 rcases h with ⟨h1, rfl, rfl⟩ | ⟨k, h1, rfl⟩
 ·exact hk s h1 (fun j v h _ => h) fun d cs h _ => h
 ·refine AW.freeze (k := k) (T := (48, 5)) (es := l.map encEv) (by simp [hpE]) ?_
  have hem : (hpE k l).setGr k none = Hp.empty := by simp [hpE]
  rw [hem]
  refine hk _ ?_ (fun j v hj hv => ?_) fun d cs hd hc => ?_
  ·rw [St.fz_t, h1]; simp [fzV, fz1]
  ·rw [St.fz_t, hj, hv]
  ·rw [St.fz_l, hd, Option.map_some, hc]
theorem Reverse_nil : PCalls Tryz.prog 28 [.sl []] (fun v => v = .tup []) := by
 have hw0 : IntKind.i64.wrap ((([] : List (List V)).length : Int) - 1) = -1 := by decide
 refine PCalls.intro Tryz.call28 Tryz.func28 rfl Tryz.ntmps28 Tryz.results28 (by simp) ?_
 refine AW.sr trivial ?_
 refine AW.block ?_   -- 0
 refine AW.loop (fun m s σ => σ = Hp.empty ∧ s.t 2 = .c (.int .i64 0) ∧ s.t 3 = .c (.int .i64 (-1))) 0 ?_ ?_
 ·simp only [zs, simprocAttr]
  first | exact ⟨rfl, rfl, rfl⟩ | exact ⟨rfl, rfl⟩ | rfl
 rintro m s σ ⟨rfl, e2, e3⟩
 refine AW.seq_k fun K2 h2 => ?_
 all_goals refine AW.sr (J2 e2 e3) ?_
 refine AW.cond (b := false) (by simp [ev]) (fun h => by cases h) (fun hi => ?_)
 refine AW.exit ?_
 all_goals simp only [zs, simprocAttr]
 all_goals ((try and_intros) <;> first | rfl | assumption | (simp))
theorem Reverse_own {l : List Ev} (hl : l.length < 4611686018427387904) {v : V} {σ : Hp} (h : OwnE l v σ) : ACalls Tryz.prog 28 [v] σ (fun r σ' => r = .tup [] ∧ OwnE l.reverse v σ') := by
 rcases h with ⟨rfl, rfl, rfl⟩ | ⟨k, rfl, rfl⟩
 ·exact Reverse_nil.to fun r h => ⟨h, .inl ⟨rfl, rfl, rfl⟩⟩
 ·exact (Reverse_spec k l hl).to fun r σ' h => ⟨h.1, .inr ⟨k, rfl, h.2⟩⟩
theorem encPat_fix (p : Pat) : ∀ k es, (encPat p).map (fz1 k es) = encPat p := fun k es => by rw [encPat]; rfl
theorem denOrder_law (p : Pat) (evs : List Ev) (hp : okPat p) (hel : evs.length * 64 ≤ 140737488351232) (heo : ∀ e ∈ evs, okE e) : PCalls Tryz.prog 7 [.agg (encPat p), .sl (evs.map encEv)] (fun v => v = .c (.bool true)) := by
 have hel2 : evs.length < 4611686018427387904 := by omega
 have hE := (encNd_eq p.node).symm
 have hall := All_P p hp evs hel2 heo
 have hall2 := All_P p hp evs.reverse (by rw [List.length_reverse]; omega) (fun e he => heo e (List.mem_reverse.1 he))
 rw [allOut_perm (List.reverse_perm evs) p] at hall2
 generalize allOut p (nodeOut p.node evs (p.node.denP evs)) = o at hall hall2
 obtain ⟨l, e⟩ := o
 refine ACalls.bare (R := fun v _ => v = .c (.bool true)) (ACalls.intro Tryz.call7 Tryz.func7 rfl Tryz.ntmps7 Tryz.results7 (by simp) ?_) fun _ _ h => h
 refine AW.sr @encPat.eq_1 ?_
 refine AW.seq_j (fun s' σ' => σ' = Hp.empty ∧ s'.t 1 = .sl (evs.map encEv) ∧ s'.t 2 = .lp 2 0 ∧ s'.l 2 = some (encPat p)) ?_ ?_
 ·refine AW.seq_j (fun s' σ' => σ' = Hp.empty ∧ s'.t 1 = .sl (evs.map encEv) ∧ s'.t 2 = .lp 2 0 ∧ s'.l 2 = some (encPat p) ∧ s'.t 17 = .c (.bool (!fitN p.node))) ?_ ?_
  ·skip
   refine AW.reg0 ?_
   iterate 2 refine S.one (J3 @encPat.eq_1 hE @nd) ?_
   have q1q := J3 @encPat.eq_1 hE @nd
   (refine S.g rfl rfl fun Y Z => ?_; simp only [zz, simprocAttr, -Int.reduceNatCast', -Int.reduceToNat, q1q]; refine PCalls.eqto (fit_spec p.node hp.small) ?_; refine S.bool fun b a12 => ?_; cases b <;> (try exact nope a12) <;> (refine Z _ _ ?_; clear Z Y))
   all_goals iterate 2 refine S.one q1q ?_
   all_goals have q2q := J3 @encPat.eq_1 hE @nd
   all_goals (first | (refine S.y rfl rfl rfl rfl fun Y Z => ?_; simp only [zz, simprocAttr, -Int.reduceNatCast', -Int.reduceToNat, q2q]; refine PCalls.eqto live_spec ?_ <;> (refine Z _ _ ?_; clear Z Y)) | ((first | refine S.x rfl rfl rfl rfl fun Y Z => ?_ | refine S.u rfl rfl rfl rfl fun Y Z => ?_); simp only [ze, simprocAttr, -Int.reduceNatCast', -Int.reduceToNat]; refine Z _ _ ?_; clear Z Y))
   all_goals iterate 2 refine S.one q2q ?_
   all_goals refine S.nil ?_
   all_goals simp only [ze, simprocAttr, q2q]
   all_goals simp_all [encPat]
  rintro s σ ⟨rfl, e1, e2, l2, e17⟩
  refine AW.cond (b := !fitN p.node) e17 (fun hb => ?_) (fun hb => ?_)
  ·refine AW.seq_k fun K2 h2 => ?_
   refine AW.reg0 ?_
   (refine S.g rfl rfl fun Y Z => ?_; simp only [zz, simprocAttr, -Int.reduceNatCast', -Int.reduceToNat]; refine PCalls.eqto live_spec ?_ <;> (refine Z _ _ ?_; clear Z Y))
   all_goals refine S.one trivial ?_
   all_goals (refine S.nil ?_; simp only [ze, simprocAttr]; apply_assumption)
   refine AW.ret ?_
   all_goals simp only [zs, simprocAttr]
   all_goals ((try and_intros) <;> first | rfl | assumption | (rfl))
  ·refine AW.skip ?_
   simp only [zs, simprocAttr, e1, e2, l2]
   all_goals ((try and_intros) <;> first | rfl | assumption | (rfl))
 rintro s σ ⟨rfl, e1, e2, l2⟩
 refine AW.seq_k fun K3 h3 => ?_
 all_goals refine AW.reg0 ?_
 all_goals refine S.one e1 ?_
 all_goals (refine S.g rfl rfl fun Y Z => ?_; simp only [zz, simprocAttr, -Int.reduceNatCast', -Int.reduceToNat, e1]; (refine ACalls.to (CloneE_spec evs hel) ?_; rintro u σ1 hown) <;> (refine Z _ _ ?_; clear Z Y))
 all_goals refine S.one e1 ?_
 all_goals (refine S.nil ?_; simp only [ze, simprocAttr, e1]; apply_assumption)
 refine AW.gen (fun s' => s'.t 1 = .sl (evs.map encEv) ∧ s'.t 2 = .lp 2 0 ∧ s'.l 2 = some (encPat p) ∧ s'.t 5 = u) ?_ ?_
 ·simp only [zs, simprocAttr, e1, e2, l2]
  all_goals ((try and_intros) <;> first | rfl | assumption | (rfl))
 rintro s ⟨e1, e2, l2, e5⟩
 have hown : OwnE evs u σ1 := hown
 have hou : okV u = true := by rcases hown with ⟨rfl, _⟩ | ⟨k, rfl, _⟩ <;> rfl
 have hwu : wk u = u := by rcases hown with ⟨rfl, _⟩ | ⟨k, rfl, _⟩ <;> rfl
 refine AW.seq_k fun K4 h4 => ?_
 all_goals refine AW.reg0 ?_
 all_goals refine S.one (J3 e5 hou hwu) ?_
 all_goals (refine S.g rfl rfl fun Y Z => ?_; simp only [zz, simprocAttr, -Int.reduceNatCast', -Int.reduceToNat, e5, hou, hwu]; (refine ACalls.to (Reverse_own hel2 hown) ?_; rintro _ σ2 ⟨rfl, hown2⟩) <;> (refine Z _ _ ?_; clear Z Y))
 all_goals (refine S.nil ?_; simp only [ze, simprocAttr, e5, hou, hwu]; apply_assumption)
 refine AW.gen (fun s' => s'.t 1 = .sl (evs.map encEv) ∧ s'.t 2 = .lp 2 0 ∧ s'.l 2 = some (encPat p) ∧ s'.t 5 = u) ?_ ?_
 ·simp only [zs, simprocAttr, e1, e2, l2, e5]
  all_goals ((try and_intros) <;> first | rfl | assumption | (rfl))
 rintro s ⟨e1, e2, l2, e5⟩
 refine AW.heldE (i := 5) (by rw [e5]; exact hown2) fun s3 f5 kt kl => ?_
 have e1 := kt 1 _ e1 (fun _ _ => rfl)
 have e2 := kt 2 _ e2 (fun _ _ => rfl)
 have l2 := kl 2 _ l2 (encPat_fix p)
 have l2' := l2
 rw [encPat] at l2'
 rw [encPat] at hall hall2
 refine AW.seq_k fun K5 h5 => ?_
 all_goals refine AW.reg0 ?_
 all_goals iterate 2 refine S.one (J5 e1 e2 l2' hE @nd) ?_
 all_goals have q3q := J5 e1 e2 l2' hE @nd
 all_goals (refine S.g rfl rfl fun Y Z => ?_; simp only [zz, simprocAttr, -Int.reduceNatCast', -Int.reduceToNat, q3q]; (refine ACalls.to hall ?_; rintro _ σ1 ⟨u1, rfl, hown1, hok1, hlen1⟩) <;> (refine Z _ _ ?_; clear Z Y))
 all_goals iterate 5 refine S.one q3q ?_
 all_goals (refine S.nil ?_; simp only [ze, simprocAttr, q3q]; apply_assumption)
 have hlen1 : l.length ≤ 4096 := hlen1
 have hok1 : ∀ p ∈ l, okQ p := hok1
 refine AW.gen (fun s' => s'.t 2 = .lp 2 0 ∧ s'.l 2 = some (encPat p) ∧ s'.t 5 = .sl (evs.reverse.map encEv) ∧ s'.t 6 = u1 ∧ s'.t 7 = .c (.int .i64 e)) ?_ ?_
 ·simp only [zs, simprocAttr, e1, e2, l2, f5]
  all_goals ((try and_intros) <;> first | rfl | assumption | (rfl))
 rintro s ⟨e2, l2, f5, e6, e7⟩
 refine AW.heldP (i := 6) (by rw [e6]; exact hown1) fun s4 f6 kt _ kl => ?_
 have e2 := kt 2 _ e2 (fun _ _ => rfl)
 have f5 := kt 5 _ f5 (fun _ _ => rfl)
 have e7 := kt 7 _ e7 (fun _ _ => rfl)
 have l2 := kl 2 _ l2 (encPat_fix p)
 have l2' := l2
 rw [encPat] at l2'
 refine AW.seq_k fun K6 h6 => ?_
 all_goals refine AW.reg0 ?_
 all_goals iterate 2 refine S.one (J5 f5 e2 l2' hE @nd) ?_
 all_goals have q4q := J5 f5 e2 l2' hE @nd
 all_goals (refine S.g rfl rfl fun Y Z => ?_; simp only [zz, simprocAttr, -Int.reduceNatCast', -Int.reduceToNat, q4q]; (refine ACalls.to hall2 ?_; rintro _ σ1 ⟨u2, rfl, hown2, _, _⟩) <;> (refine Z _ _ ?_; clear Z Y))
 all_goals iterate 5 refine S.one q4q ?_
 all_goals (refine S.nil ?_; simp only [ze, simprocAttr, q4q]; apply_assumption)
 refine AW.gen (fun s' => s'.t 6 = .sl (l.map encP) ∧ s'.t 7 = .c (.int .i64 e) ∧ s'.t 8 = u2 ∧ s'.t 9 = .c (.int .i64 e)) ?_ ?_
 ·simp only [zs, simprocAttr, f6, e7]
  all_goals ((try and_intros) <;> first | rfl | assumption | (rfl))
 rintro s ⟨f6, e7, e8, e9⟩
 refine AW.heldP (i := 8) (by rw [e8]; exact hown2) fun s5 f8 kt _ kl => ?_
 have f6 := kt 6 _ f6 (fun _ _ => rfl)
 have e7 := kt 7 _ e7 (fun _ _ => rfl)
 have e9 := kt 9 _ e9 (fun _ _ => rfl)
 have hsame := rSameAll_spec l l (by omega) (fun x hx => (hok1 x hx).toL)
 rw [allEq_refl (fun x => samePart_iff.2 rfl)] at hsame
 refine AW.seq_j (fun s' σ' => s'.t 4 = .c (.bool true)) ?_ ?_
 ·skip
  refine AW.reg0 ?_
  have q5q := J4 f6 e7 f8 e9
  iterate 2 refine S.one q5q ?_
  (refine S.sp q5q fun b a37 => ?_; cases b <;> (try exact nope a37))
  all_goals iterate 3 refine S.one q5q ?_
  all_goals have q6q := J4 f6 e7 f8 e9
  all_goals (first | (refine S.y rfl rfl rfl rfl fun Y Z => ?_; simp only [zz, simprocAttr, -Int.reduceNatCast', -Int.reduceToNat, q6q]; refine PCalls.eqto hsame ?_ <;> (refine Z _ _ ?_; clear Z Y)) | ((first | refine S.x rfl rfl rfl rfl fun Y Z => ?_ | refine S.u rfl rfl rfl rfl fun Y Z => ?_); simp only [ze, simprocAttr, -Int.reduceNatCast', -Int.reduceToNat]; refine Z _ _ ?_; clear Z Y))
  all_goals iterate 2 refine S.one q6q ?_
  all_goals refine S.nil ?_
  all_goals simp only [ze, simprocAttr, q6q]
  all_goals simp_all
 rintro s4 σ4 e4
 refine AW.ret ?_
 all_goals simp only [zs, simprocAttr, e4]
 all_goals ((try and_intros) <;> first | rfl | assumption | (rfl))
end Go.Abs.M
namespace Go.Abs.M
set_option maxHeartbeats 4000000
open Go Go.Abs Go.Proofs
set_option maxRecDepth 20000
theorem co2 : Tryz.prog.cellsOf 2 = 1 := by kernel_rfl
theorem co3 : Tryz.prog.cellsOf 3 = 1 := by kernel_rfl
theorem co9 : Tryz.prog.cellsOf 9 = 1 := by kernel_rfl
theorem co22 : Tryz.prog.cellsOf 22 = 1 := by kernel_rfl
theorem co23 : Tryz.prog.cellsOf 23 = 1 := by kernel_rfl
theorem co25 : Tryz.prog.cellsOf 25 = 5 := by kernel_rfl
theorem co37 : Tryz.prog.cellsOf 37 = 8 := by kernel_rfl
theorem co45 : Tryz.prog.cellsOf 45 = 2 := by kernel_rfl
theorem co46 : Tryz.prog.cellsOf 46 = 1 := by kernel_rfl
theorem co48 : Tryz.prog.cellsOf 48 = 5 := by kernel_rfl
theorem co104 : Tryz.prog.cellsOf 104 = 3 := by kernel_rfl
theorem co106 : Tryz.prog.cellsOf 106 = 5 := by kernel_rfl
theorem co108 : Tryz.prog.cellsOf 108 = 11 := by kernel_rfl
theorem co119 : Tryz.prog.cellsOf 119 = 4 := by kernel_rfl
theorem len4 {us : List V} (h : us.length = 4) : ∃ x0 x1 x2 x3, us = [x0, x1, x2, x3] := by
 match us, h with
 | [x0, x1, x2, x3], _ => exact ⟨x0, x1, x2, x3, rfl⟩
theorem len5 {us : List V} (h : us.length = 5) : ∃ x0 x1 x2 x3 x4, us = [x0, x1, x2, x3, x4] := by
 match us, h with
 | [x0, x1, x2, x3, x4], _ => exact ⟨x0, x1, x2, x3, x4, rfl⟩
theorem len8 {us : List V} (h : us.length = 8) : ∃ x0 x1 x2 x3 x4 x5 x6 x7, us = [x0, x1, x2, x3, x4, x5, x6, x7] := by
 match us, h with
 | [x0, x1, x2, x3, x4, x5, x6, x7], _ => exact ⟨x0, x1, x2, x3, x4, x5, x6, x7, rfl⟩
theorem len11 {us : List V} (h : us.length = 11) : ∃ x0 x1 x2 x3 x4 x5 x6 x7 x8 x9 x10, us = [x0, x1, x2, x3, x4, x5, x6, x7, x8, x9, x10] := by
 match us, h with
 | [x0, x1, x2, x3, x4, x5, x6, x7, x8, x9, x10], _ => exact ⟨x0, x1, x2, x3, x4, x5, x6, x7, x8, x9, x10, rfl⟩
theorem open_val {n : Nat} {x0 x1 x2 : V} (h : Fit Tryz.prog n 104 [x0, x1, x2]) : ∃ v : Val, [x0, x1, x2] = encVal v ∧ v.s.size ≤ reachBytes := by
 obtain ⟨_, m, _, hf⟩ := h.st Tryz.underlying104
 have h0 : Fit Tryz.prog m 3 (([x0, x1, x2].drop 0).take (Tryz.prog.cellsOf 3)) := hf 0 _ rfl
 have h1 : Fit Tryz.prog m 2 (([x0, x1, x2].drop 1).take (Tryz.prog.cellsOf 2)) := hf 1 _ rfl
 have h2 : Fit Tryz.prog m 9 (([x0, x1, x2].drop 2).take (Tryz.prog.cellsOf 9)) := hf 2 _ rfl
 simp only [co3, co2, co9, List.drop_zero, List.take_succ_cons, List.take_zero, List.drop_succ_cons] at h0 h1 h2
 obtain ⟨a, e0, _⟩ := h0.int Tryz.underlying3
 obtain ⟨b, e1, _⟩ := h1.int Tryz.underlying2
 obtain ⟨s, e2, hs⟩ := h2.str Tryz.underlying9
 simp only [List.cons.injEq, and_true] at e0 e1 e2
 exact ⟨⟨a, b, s⟩, by rw [e0, e1, e2]; rfl, hs⟩
def opdFits (o : Opd) : Prop := o.var.size ≤ reachBytes ∧ o.attr.size ≤ reachBytes ∧ o.v.s.size ≤ reachBytes
theorem open_opd {n : Nat} {x0 x1 x2 x3 x4 : V} (h : Fit Tryz.prog n 106 [x0, x1, x2, x3, x4]) : ∃ o : Opd, [x0, x1, x2, x3, x4] = encO o ∧ opdFits o := by
 obtain ⟨_, m, _, hf⟩ := h.st Tryz.underlying106
 have h0 : Fit Tryz.prog m 9 (([x0, x1, x2, x3, x4].drop 0).take (Tryz.prog.cellsOf 9)) := hf 0 _ rfl
 have h1 : Fit Tryz.prog m 9 (([x0, x1, x2, x3, x4].drop 1).take (Tryz.prog.cellsOf 9)) := hf 1 _ rfl
 have h2 : Fit Tryz.prog m 104 (([x0, x1, x2, x3, x4].drop 2).take (Tryz.prog.cellsOf 104)) := hf 2 _ rfl
 simp only [co9, co104, List.drop_zero, List.take_succ_cons, List.take_zero, List.drop_succ_cons] at h0 h1 h2
 obtain ⟨s, e0, hs⟩ := h0.str Tryz.underlying9
 obtain ⟨t, e1, ht⟩ := h1.str Tryz.underlying9
 obtain ⟨v, e2, hv⟩ := open_val h2
 simp only [List.cons.injEq, and_true] at e0 e1
 exact ⟨⟨s, t, v⟩, by rw [e0, e1, e2]; rfl, hs, ht, hv⟩
def cndFits (c : Cnd) : Prop := opdFits c.l ∧ opdFits c.r
theorem open_cnd {n : Nat} {us : List V} (hl : us.length = 11) (h : Fit Tryz.prog n 108 us) : ∃ c : Cnd, us = encC c ∧ cndFits c := by
 obtain ⟨_, m, _, hf⟩ := h.st Tryz.underlying108
 have h0 : Fit Tryz.prog m 106 ((us.drop 0).take (Tryz.prog.cellsOf 106)) := hf 0 _ rfl
 have h1 : Fit Tryz.prog m 3 ((us.drop 5).take (Tryz.prog.cellsOf 3)) := hf 1 _ rfl
 have h2 : Fit Tryz.prog m 106 ((us.drop 6).take (Tryz.prog.cellsOf 106)) := hf 2 _ rfl
 obtain ⟨x0, x1, x2, x3, x4, x5, x6, x7, x8, x9, x10, rfl⟩ := len11 hl
 simp only [co106, co3, List.drop_zero, List.take_succ_cons, List.take_zero, List.drop_succ_cons] at h0 h1 h2
 obtain ⟨a, e0, ha⟩ := open_opd h0
 obtain ⟨r, e1, _⟩ := h1.int Tryz.underlying3
 obtain ⟨b, e2, hb⟩ := open_opd h2
 simp only [List.cons.injEq, and_true] at e1
 refine ⟨⟨a, r, b⟩, ?_, ha, hb⟩
 show [x0, x1, x2, x3, x4] ++ [x5] ++ [x6, x7, x8, x9, x10] = encO a ++ [_] ++ encO b
 rw [e0, e1, e2]
def attrFits (a : Attr) : Prop := a.name.size ≤ reachBytes ∧ a.v.s.size ≤ reachBytes
theorem open_attr {n : Nat} {us : List V} (hl : us.length = 4) (h : Fit Tryz.prog n 119 us) : ∃ a : Attr, us = encAttr a ∧ attrFits a := by
 obtain ⟨_, m, _, hf⟩ := h.st Tryz.underlying119
 have h0 : Fit Tryz.prog m 9 ((us.drop 0).take (Tryz.prog.cellsOf 9)) := hf 0 _ rfl
 have h1 : Fit Tryz.prog m 104 ((us.drop 1).take (Tryz.prog.cellsOf 104)) := hf 1 _ rfl
 obtain ⟨x0, x1, x2, x3, rfl⟩ := len4 hl
 simp only [co9, co104, List.drop_zero, List.take_succ_cons, List.take_zero, List.drop_succ_cons] at h0 h1
 obtain ⟨s, e0, hs⟩ := h0.str Tryz.underlying9
 obtain ⟨v, e1, hv⟩ := open_val h1
 simp only [List.cons.injEq, and_true] at e0
 refine ⟨⟨s, v⟩, ?_, hs, hv⟩
 rw [e0, e1]; rfl
theorem inI64_of {x : Int} (h : (Lit.int .i64 x).wf = true) : inI64 x := by
 simp [Lit.wf, IntKind.min, IntKind.max, IntKind.signed, IntKind.bits] at h
 unfold inI64; omega
structure evFits (e : Ev) : Prop where
  type : e.type.size ≤ reachBytes
  len : e.attrs.length * 48 ≤ reachBytes
  attrs : ∀ a ∈ e.attrs, attrFits a
  time : inI64 e.time
theorem open_ev {n : Nat} {us : List V} (hl : us.length = 5) (h : Fit Tryz.prog n 48 us) : ∃ e : Ev, us = encEv e ∧ evFits e := by
 obtain ⟨_, m, _, hf⟩ := h.st Tryz.underlying48
 have h0 : Fit Tryz.prog m 45 ((us.drop 0).take (Tryz.prog.cellsOf 45)) := hf 0 _ rfl
 have h1 : Fit Tryz.prog m 2 ((us.drop 2).take (Tryz.prog.cellsOf 2)) := hf 1 _ rfl
 have h2 : Fit Tryz.prog m 9 ((us.drop 3).take (Tryz.prog.cellsOf 9)) := hf 2 _ rfl
 have h3 : Fit Tryz.prog m 46 ((us.drop 4).take (Tryz.prog.cellsOf 46)) := hf 3 _ rfl
 obtain ⟨x0, x1, x2, x3, x4, rfl⟩ := len5 hl
 simp only [co45, co2, co9, co46, List.drop_zero, List.take_succ_cons, List.take_zero, List.drop_succ_cons] at h0 h1 h2 h3
 obtain ⟨_, m', _, hg⟩ := h0.st Tryz.underlying45
 have g0 : Fit Tryz.prog m' 3 (([x0, x1].drop 0).take (Tryz.prog.cellsOf 3)) := hg 0 _ rfl
 have g1 : Fit Tryz.prog m' 2 (([x0, x1].drop 1).take (Tryz.prog.cellsOf 2)) := hg 1 _ rfl
 simp only [co3, co2, List.drop_zero, List.take_succ_cons, List.take_zero, List.drop_succ_cons] at g0 g1
 obtain ⟨a, e0, _⟩ := g0.int Tryz.underlying3
 obtain ⟨b, e1, _⟩ := g1.int Tryz.underlying2
 obtain ⟨c, e2, hc⟩ := h1.int Tryz.underlying2
 obtain ⟨s, e3, hs⟩ := h2.str Tryz.underlying9
 obtain ⟨es, e4, hes, k, _, hk⟩ := h3.sl Tryz.underlying46
 simp only [co119] at hk
 obtain ⟨l, rfl, hl⟩ := rows_of (f := encAttr) (p := attrFits) fun x hx => open_attr (hk x hx).1 (hk x hx).2
 simp only [List.cons.injEq, and_true] at e0 e1 e2 e3 e4
 refine ⟨⟨a, b, c, s, l⟩, by rw [e0, e1, e2, e3, e4]; rfl, hs, ?_, hl, inI64_of hc⟩
 rw [List.length_map, by119] at hes; exact hes
theorem evFits.ok {e : Ev} (h : evFits e) : okE e := by
 have hr : reachBytes = 140737488351232 := rfl
 obtain ⟨h1, h2, h3, _⟩ := h
 exact ⟨by omega, by omega, fun a ha => by obtain ⟨h5, h6⟩ := h3 a ha; exact ⟨by omega, by omega⟩⟩
theorem okC_of {c : Cnd} (h : cndFits c) : okC c := by
 have hr : reachBytes = 140737488351232 := rfl
 obtain ⟨⟨h1, h2, h3⟩, h4, h5, h6⟩ := h
 exact ⟨⟨by omega⟩, ⟨by omega⟩⟩
theorem open_conds {n : Nat} {x : V} (h : Fit Tryz.prog n 22 [x]) : ∃ l : List Cnd, x = .sl (l.map encC) ∧ (∀ c ∈ l, okC c) ∧ l.length < 4611686018427387904 := by
 have hr : reachBytes = 140737488351232 := rfl
 obtain ⟨es, e4, hes, k, _, hk⟩ := h.sl Tryz.underlying22
 simp only [co108] at hk
 obtain ⟨l, rfl, hl⟩ := rows_of (f := encC) (p := cndFits) fun x hx => open_cnd (hk x hx).1 (hk x hx).2
 simp only [List.cons.injEq, and_true] at e4
 refine ⟨l, e4, fun c hc => okC_of (hl c hc), ?_⟩
 rw [List.length_map, by108] at hes; omega
theorem open_nd : ∀ (n : Nat) (us : List V), us.length = 5 → Fit Tryz.prog n 25 us → ∃ nd : Nd, us = encNd nd ∧ nd.ok := by
  intro n
  induction n using Nat.strongRecOn with
  | _ n ih =>
    intro us hl h
    have hr : reachBytes = 140737488351232 := rfl
    obtain ⟨_, m, hm, hf⟩ := h.st Tryz.underlying25
    have h0 : Fit Tryz.prog m 3 ((us.drop 0).take (Tryz.prog.cellsOf 3)) := hf 0 _ rfl
    have h1 : Fit Tryz.prog m 9 ((us.drop 1).take (Tryz.prog.cellsOf 9)) := hf 1 _ rfl
    have h2 : Fit Tryz.prog m 9 ((us.drop 2).take (Tryz.prog.cellsOf 9)) := hf 2 _ rfl
    have h3 : Fit Tryz.prog m 22 ((us.drop 3).take (Tryz.prog.cellsOf 22)) := hf 3 _ rfl
    have h4 : Fit Tryz.prog m 23 ((us.drop 4).take (Tryz.prog.cellsOf 23)) := hf 4 _ rfl
    obtain ⟨x0, x1, x2, x3, x4, rfl⟩ := len5 hl
    simp only [co3, co9, co22, co23, List.drop_zero, List.take_succ_cons, List.take_zero, List.drop_succ_cons] at h0 h1 h2 h3 h4
    obtain ⟨a, e0, _⟩ := h0.int Tryz.underlying3
    obtain ⟨s, e1, hs⟩ := h1.str Tryz.underlying9
    obtain ⟨t, e2, ht⟩ := h2.str Tryz.underlying9
    obtain ⟨cs, e3, hcs, hcl⟩ := open_conds h3
    obtain ⟨es, e4, hes, k, hkm, hk⟩ := h4.sl Tryz.underlying23
    simp only [co25] at hk
    obtain ⟨l, rfl, hl⟩ := rows_of (f := encNd) (p := Nd.ok) fun x hx => ih k (by omega) x (hk x hx).1 (hk x hx).2
    simp only [List.cons.injEq, and_true] at e0 e1 e2 e4
    refine ⟨⟨a, s, t, cs, l⟩, by rw [e0, e1, e2, e3, e4, encNd_eq]; rfl, ?_⟩
    rw [Nd.ok_eq]
    refine ⟨⟨by show s.size < _; omega, by show t.size < _; omega, hcl, hcs⟩, fun p hp => ?_⟩
    obtain ⟨x, hx, rfl⟩ := List.mem_map.1 hp
    exact hl x hx
theorem open_pat {n : Nat} {us : List V} (hl : us.length = 8) (h : Fit Tryz.prog n 37 us) : ∃ p : Pat, us = encPat p ∧ p.name.size < 4611686018427387904 ∧ p.node.ok ∧ p.conds.length < 4611686018427387904 ∧ (∀ c ∈ p.conds, okC c) ∧ inI64 p.within := by
 have hr : reachBytes = 140737488351232 := rfl
 obtain ⟨_, m, _, hf⟩ := h.st Tryz.underlying37
 have h0 : Fit Tryz.prog m 9 ((us.drop 0).take (Tryz.prog.cellsOf 9)) := hf 0 _ rfl
 have h1 : Fit Tryz.prog m 2 ((us.drop 1).take (Tryz.prog.cellsOf 2)) := hf 1 _ rfl
 have h2 : Fit Tryz.prog m 25 ((us.drop 2).take (Tryz.prog.cellsOf 25)) := hf 2 _ rfl
 have h3 : Fit Tryz.prog m 22 ((us.drop 7).take (Tryz.prog.cellsOf 22)) := hf 3 _ rfl
 obtain ⟨x0, x1, x2, x3, x4, x5, x6, x7, rfl⟩ := len8 hl
 simp only [co9, co2, co25, co22, List.drop_zero, List.take_succ_cons, List.take_zero, List.drop_succ_cons] at h0 h1 h2 h3
 obtain ⟨s, e0, hs⟩ := h0.str Tryz.underlying9
 obtain ⟨w, e1, hw⟩ := h1.int Tryz.underlying2
 obtain ⟨nd, e2, hn⟩ := open_nd m _ rfl h2
 obtain ⟨cs, e3, hcs, hcl⟩ := open_conds h3
 simp only [List.cons.injEq, and_true] at e0 e1
 refine ⟨⟨s, w, nd, cs⟩, ?_, by show s.size < _; omega, hn, hcl, hcs, inI64_of hw⟩
 show [x0, x1] ++ [x2, x3, x4, x5, x6] ++ [x7] = _
 rw [e0, e1, e2, e3, encNd_eq]; rfl
def plainTs : List TypeId := [25, 23, 22, 108, 106, 104, 26, 48, 45, 46, 119, 37, 40, 38, 50, 9, 3, 2, 5]
theorem plain_ok : plainB Tryz.prog plainTs = true := by kernel_rfl
theorem okWide_agg {P : Program} {W : World} {r : Reach} {base : Nat} {t : TypeId} {fs : Array Field} {v : Value} (hu : P.underlying t = some (.struct fs)) (h : Value.okWide P W r base t v) : ∃ cs, v = .agg cs ∧ cs.size = P.cellsOf t := by
 simp only [Value.okWide, hu] at h
 obtain ⟨cs, h1, h2, _⟩ := h
 exact ⟨cs, h1, h2⟩
theorem flat_of {t : TypeId} {W : World} {base : Nat} {v : Value} (hu : (∃ k, Tryz.prog.underlying t = some (.int k)) ∨ Tryz.prog.underlying t = some .string ∨ ∃ e, Tryz.prog.underlying t = some (.slice e)) (hval : Value.okWide Tryz.prog W .any base t v) : ∀ cs, v ≠ .agg cs := by
 rintro cs rfl
 rcases hu with ⟨k, hu⟩ | hu | ⟨e, hu⟩ <;> simp [Value.okWide, Cell.okWide, Cell.ok, hu] at hval
section
variable {H : Type} {enc : TypeId × Value → H} {W : World} {base : Nat} {v : Value} {d : DataW H} {ps : List MemPlace}
theorem arg_pat (hval : Value.okWide Tryz.prog W .any base 37 v)
  (h : DataW.Trod enc Tryz.prog W 0 (fun _ => true) true 37 v d ps) (hw : ∀ n ∈ d.weights Tryz.prog 37, n ≤ reachBytes) : ∃ p : Pat, VR W (cx0 W) (.agg (encPat p)) v ∧ VRs W (cx0 W) (encPat p) v.cells.toList ∧ p.name.size < 4611686018427387904 ∧ p.node.ok ∧ p.conds.length < 4611686018427387904 ∧ (∀ c ∈ p.conds, okC c) ∧ inI64 p.within := by
 obtain ⟨n, us, h1, h2⟩ := open_arg (P := Tryz.prog) (t := 37) plainTs plain_ok (by decide) h hw
 obtain ⟨cs, rfl, hcs⟩ := okWide_agg Tryz.underlying37 hval
 have hl : us.length = 8 := by rw [h1.1]; simpa [Value.cells, co37] using hcs
 obtain ⟨p, rfl, hok⟩ := open_pat hl h2
 exact ⟨p, VR.of_row h1, h1, hok⟩
theorem arg_evs (hval : Value.okWide Tryz.prog W .any base 26 v)
  (h : DataW.Trod enc Tryz.prog W 0 (fun _ => true) true 26 v d ps) (hw : ∀ n ∈ d.weights Tryz.prog 26, n ≤ reachBytes) : ∃ l : List Ev, VR W (cx0 W) (.sl (l.map encEv)) v ∧ (∀ e ∈ l, evFits e) ∧ l.length * 64 ≤ reachBytes := by
 obtain ⟨n, us, h1, h2⟩ := open_arg (P := Tryz.prog) (t := 26) plainTs plain_ok (by decide) h hw
 obtain ⟨es, rfl, hes, k, _, hk⟩ := h2.sl Tryz.underlying26
 simp only [co48] at hk
 obtain ⟨l, rfl, hl⟩ := rows_of (f := encEv) (p := evFits) fun x hx => open_ev (hk x hx).1 (hk x hx).2
 refine ⟨l, VR.of_cell h1 (flat_of (.inr (.inr ⟨_, Tryz.underlying26⟩)) hval), hl, ?_⟩
 rw [List.length_map, by48] at hes; exact hes
end
end Go.Abs.M
namespace Go.Abs.M
set_option maxHeartbeats 4000000
open Go Go.Abs Go.Proofs
open Go.Proofs.YtkijhgplmikboaaGreat.Rows (uptoBulk uptoBulkAll)
set_option maxRecDepth 20000
theorem bulk_le {H : Type} : ∀ {d : DataW H} {l : List (DataW H)}, d ∈ l → uptoBulk d ≤ uptoBulkAll l
  | d, x :: l, h => by
    simp only [uptoBulkAll]
    rcases List.mem_cons.1 h with rfl | h
    · omega
    · have := bulk_le h; omega
theorem bulk_one {H : Type} (d : DataW H) : 1 ≤ uptoBulk d := by
 cases d with
 | lit l => cases l <;> simp [uptoBulk]
 | nil => simp [uptoBulk]
 | ptr d => simp [uptoBulk]
 | slice elems spare => simp [uptoBulk]
 | agg parts => simp [uptoBulk]
 | iface t d => simp [uptoBulk]
 | map entries => simp [uptoBulk]
 | held h => simp [uptoBulk]
theorem bulk_sum {H : Type} {n : Nat} (D : Nat → DataW H) : ∀ (l : List Nat) (o : Nat), (∀ i x, l[i]? = some x → x ≤ uptoBulk (D (o + i))) → l.sum ≤ uptoBulkAll ((List.range l.length).map fun i => D (o + i))
  | [], o, _ => by simp [uptoBulkAll]
  | x :: l, o, h => by
    have h0 := h 0 x rfl
    have h1 := bulk_sum (n := n) D l (o + 1) fun i y hy => by
      have := h (i + 1) y (by simpa using hy)
      rwa [show o + (i + 1) = o + 1 + i by omega] at this
    rw [List.length_cons, List.range_succ_eq_map, List.map_cons, List.sum_cons]
    simp only [uptoBulkAll, Nat.add_zero, List.map_map] at h0 ⊢
    have e : (List.range l.length).map ((fun i => D (o + i)) ∘ Nat.succ) = (List.range l.length).map fun i => D (o + 1 + i) := List.map_congr_left fun i _ => by
      show D (o + (i + 1)) = _
      rw [show o + (i + 1) = o + 1 + i by omega]
    rw [e]; omega
theorem nd_bulk {H : Type} {enc : TypeId × Value → H} {W : World} : ∀ (nd : Nd) (fuel : Nat) (cs : List Value) (d : DataW H) (ps : List MemPlace),
    DataW.trod enc Tryz.prog W 0 (fun _ => true) true fuel 25 cs = some (d, ps) → VRs W (cx0 W) (encNd nd) cs → nd.size ≤ uptoBulk d := Nd.ind fun nd ih fuel cs d ps h hv => by
  obtain ⟨xs, n, _, hx, hcl, hxl, hfs⟩ := DataW.trod_struct Tryz.underlying25 h
  simp only [Prod.mk.injEq] at hx
  obtain ⟨rfl, -⟩ := hx
  have h4 := hfs 4 _ rfl
  rw [List.getElem?_eq_getElem (by rw [hxl]; decide)] at h4
  generalize hy : xs[4]'(by rw [hxl]; decide) = y at h4
  have hym : y.1 ∈ xs.map (·.1) := List.mem_map.2 ⟨y, by rw [← hy]; exact List.getElem_mem _, rfl⟩
  obtain ⟨yd, yp⟩ := y
  have hb := bulk_le hym
  have hd : uptoBulk (DataW.agg (xs.map (·.1))) = uptoBulkAll (xs.map (·.1)) + 1 := by simp [uptoBulk]
  rw [co25] at hcl
  have hcv : ∃ c, (cs.drop 4).take 1 = [c] ∧ cs[4]? = some c := by
    match cs, hcl with
    | [a, b, c, d, e], _ => exact ⟨e, rfl, rfl⟩
  obtain ⟨c, hc1, hc2⟩ := hcv
  have h4 : DataW.trod enc Tryz.prog W 0 (fun _ => true) true n 23 ((cs.drop 4).take 1) = some (yd, yp) := h4
  rw [hc1] at h4
  have hk : VR W (cx0 W) (.sl (nd.kids.map encNd)) c := hv.2.2 4 _ c (by rw [encNd_eq]; rfl) hc2
  rw [Nd.size_eq, hd]
  suffices hs : (nd.kids.map Nd.size).sum + 1 ≤ uptoBulk yd by
    have : uptoBulk yd ≤ uptoBulkAll (xs.map (·.1)) := hb
    omega
  rcases Go.Deep.open_slice Tryz.underlying23 h4 with ⟨h1, h2⟩ | ⟨a, len, cap, m, n', D, Pl, h1, _, hlc, _, hm, h2, hel⟩
  · injection h1 with h1
    subst h1
    generalize hes : nd.kids.map encNd = es at hk
    cases hk with
    | nils =>
      have : nd.kids = [] := List.map_eq_nil_iff.1 hes
      rw [this]
      exact bulk_one yd
  · injection h1 with h1
    subst h1
    have hm : m = cap := by simpa using hm
    have hyd : yd = .slice ((List.range len).map D) ((List.range (m - len)).map fun j => D (len + j)) := congrArg Prod.fst h2
    rw [hyd]
    simp only [uptoBulk]
    suffices hs : (nd.kids.map Nd.size).sum ≤ uptoBulkAll ((List.range len).map D) by omega
    generalize hes : nd.kids.map encNd = es at hk
    have hkl : nd.kids.length = es.length := by rw [← hes, List.length_map]
    cases hk with
    | nile =>
      have : nd.kids = [] := List.map_eq_nil_iff.1 hes
      rw [this]; simp
    | sl f hI hcap hlen hc hr h1 =>
      have hsum := bulk_sum (n := 0) D (nd.kids.map Nd.size) 0 fun i x hx => ?_
      · rw [List.length_map, hkl] at hsum
        simpa using hsum
      · rw [List.getElem?_map, Option.map_eq_some_iff] at hx
        obtain ⟨k, hki, rfl⟩ := hx
        have hkm := List.mem_of_getElem? hki
        have hil : i < es.length := by rw [← hkl]; exact (List.getElem?_eq_some_iff.1 hki).1
        have hei : es[i]? = some (encNd k) := by rw [← hes, List.getElem?_map, hki]; rfl
        obtain ⟨cs', hc1', hc2'⟩ := hel i (by omega)
        rw [co25] at hc1'
        obtain ⟨_, hcl', hce'⟩ := World.cells?_some hc1'
        rw [Nat.zero_add]
        have hsz := hlen i _ hei
        rw [encNd_len] at hsz
        subst hsz
        have hcell : ∀ j, j < 5 → cs'[j]? = some (f i j) := fun j hj => by
          have h5 := hce' j hj
          rw [Addr.add_lit, Addr.add_lit] at h5
          rw [← h5]; exact hc i j hil hj
        refine ih k hkm n' cs' _ _ hc2' ⟨by rw [encNd_len, hcl'], fun x hx => ?_, fun j v x hv hx => ?_⟩
        · obtain ⟨j, hj⟩ := List.getElem?_of_mem hx
          have hj5 : j < 5 := by rw [← hcl']; exact (List.getElem?_eq_some_iff.1 hj).1
          rw [hcell j hj5] at hj
          injection hj with hj
          rw [← hj]; exact h1 i j hil hj5
        · have hj5 : j < 5 := by rw [← hcl']; exact (List.getElem?_eq_some_iff.1 hx).1
          rw [hcell j hj5] at hx
          injection hx with hx
          rw [← hx]; exact hr i _ j v hei hv
theorem trod_mono {H : Type} {x : DataW H} {l : List (DataW H)} (h : x ∈ l) : uptoBulk x + 1 ≤ uptoBulk (DataW.agg l) := by
 have := bulk_le h
 simp only [uptoBulk]; omega
theorem pat_bulk {H : Type} {enc : TypeId × Value → H} {W : World} {v : Value} {d : DataW H} {ps : List MemPlace} {p : Pat} (h : DataW.Trod enc Tryz.prog W 0 (fun _ => true) true 37 v d ps) (hv : VRs W (cx0 W) (encPat p) v.cells.toList) : p.node.size ≤ uptoBulk d := by
 obtain ⟨fuel, h⟩ := h
 generalize v.cells.toList = cs at h hv
 obtain ⟨xs, n, _, hx, hcl, hxl, hfs⟩ := DataW.trod_struct Tryz.underlying37 h
 simp only [Prod.mk.injEq] at hx
 obtain ⟨rfl, -⟩ := hx
 have h4 := hfs 2 _ rfl
 rw [List.getElem?_eq_getElem (by rw [hxl]; decide)] at h4
 generalize hy : xs[2]'(by rw [hxl]; decide) = y at h4
 have hym : y.1 ∈ xs.map (·.1) := List.mem_map.2 ⟨y, by rw [← hy]; exact List.getElem_mem _, rfl⟩
 obtain ⟨yd, yp⟩ := y
 have hb := trod_mono hym
 have h4 : DataW.trod enc Tryz.prog W 0 (fun _ => true) true n 25 ((cs.drop 2).take (Tryz.prog.cellsOf 25)) = some (yd, yp) := h4
 rw [co25] at h4
 have hn : VRs W (cx0 W) (encNd p.node) ((cs.drop 2).take 5) := by
  rw [co37] at hcl
  refine ⟨by rw [encNd_len]; simp [hcl], fun x hx => hv.2.1 x (List.mem_of_mem_drop (List.mem_of_mem_take hx)), fun j u x hu hx => ?_⟩
  have hj : j < 5 := by rw [← encNd_len p.node]; exact (List.getElem?_eq_some_iff.1 hu).1
  rw [List.getElem?_take, if_pos hj, List.getElem?_drop] at hx
  refine hv.2.2 (2 + j) u x ?_ hx
  have e : encPat p = [.c (.string p.name), .c (.int .i64 p.within)] ++ (encNd p.node ++ [.sl (p.conds.map encC)]) := by rw [encNd_eq]; rfl
  rw [e, List.getElem?_append_right (by simp), show 2 + j - [V.c (.string p.name), .c (.int .i64 p.within)].length = j by simp, List.getElem?_append_left (by rw [encNd_len]; exact hj)]
  exact hu
 have := nd_bulk p.node n _ yd yp h4 hn
 have hb : uptoBulk yd + 1 ≤ uptoBulk (DataW.agg (xs.map (·.1))) := hb
 show p.node.size ≤ uptoBulk (DataW.agg (xs.map (·.1)))
 omega
end Go.Abs.M
