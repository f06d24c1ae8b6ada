import Derived.Test.YtkijhgplmikboaaGreatNla
import Derived.ChangeArms
import Derived.SizedLaws
import Derived.Carry
import Derived.ChangeOld
import Derived.Laws.Append
import Derived.RangeFuncCalls
import Derived.Shelf.SlSortCmp.NoneTotal
import Derived.Maps.Own
import Derived.Sort.KeysCollected
import Derived.Test.YtkijhgplmikboaaGreatRows
import Derived.Shelf.SlIter.Nil
import Derived.Shelf.SortM.Plain
import Derived.Shelf.SortM.SortNone
import Derived.MapKept
set_option linter.all false
set_option maxHeartbeats 4000000
namespace Go.Abs
open Go
theorem str_nil (s : ByteArray) : (s.toList == (ByteArray.mk #[]).toList) = decide (s.size = 0) := by
 rw [ByteArray.toList_eq, ByteArray.toList_eq]
 have e : s.size = s.data.toList.length := by rw [Array.length_toList]; rfl
 rw [e]
 cases s.data.toList <;> rfl
section
variable {P : Program} {T : Tab} {n : Nat} {s : St} {σ : Hp} {Q Q' : Exit → St → Hp → Prop}
variable [Mode]
def stC (T : Tab) (s : St) : Nat → Op → Prop
  | 1, .load _ x => steady T.sd (ev s x) = true
  | 1, _ => False
  | _, _ => True
theorem D.go {ops : List Oper} {ds : List (Option Nat)} {i k : Nat} {o : Oper} {r : List (Nat × Nat)} {K : St → Hp → Prop} (ho : ops[i]? = some o) (hs : stC T s k o.op) (hd : dOK n o.dst) (hg : o.guard = none)
  (h : ∀ K' : St → Hp → Prop, (∀ s σ, semD P T n ops ds r K s σ → K' s σ) → semOp P T o K' s σ) : semD P T n ops ds ((i, k) :: r) K s σ := by
 simp only [semD, ho]
 refine ⟨hd, ?_, by rw [hg]; exact h _ fun _ _ h => h⟩
 unfold stC at hs
 split at hs <;> simp_all [gate]
theorem D.yes {ops : List Oper} {ds : List (Option Nat)} {i k : Nat} {o : Oper} {r : List (Nat × Nat)} {K : St → Hp → Prop} {j d : Nat} {b : Bool} (ho : ops[i]? = some o) (hs : stC T s k o.op) (hd : dOK n o.dst) (hg : o.guard = some (j, b)) (hj : ds[j]? = some (some d)) (hb : s.t d = .c (.bool b))
  (h : ∀ K' : St → Hp → Prop, (∀ s σ, semD P T n ops ds r K s σ → K' s σ) → semOp P T o K' s σ) : semD P T n ops ds ((i, k) :: r) K s σ := by
 simp only [semD, ho]
 refine ⟨hd, ?_, by rw [hg, gate_some hj hb, if_pos rfl]; exact h _ fun _ _ h => h⟩
 unfold stC at hs
 split at hs <;> simp_all [gate]
theorem stC_gate {ds : List (Option Nat)} {o : Oper} {k j d : Nat} {b : Bool} (hk : k = 1 → isLoad o.op = true) (hg : o.guard = some (j, b)) (hj : ds[j]? = some (some d)) (hb : s.t d = .c (.bool (!b)) ∨ s.t d = .c undef) :
    (match (generalizing := false) k, o.op with
       | 1, .load _ x => gate ds s o.guard (steady T.sd (ev s x) = true) True
       | 1, _ => False
       | _, _ => True) := by
  split
  · rcases hb with hb | hb
    · simp [gate, hg, hj, hb]
    · simp [gate, hg, hj, hb, undef]
  · rename_i op hne
    have := hk rfl
    unfold isLoad at this
    split at this
    · rename_i h1; exact hne _ _ h1
    · cases this
  · trivial
theorem D.no {ops : List Oper} {ds : List (Option Nat)} {i k : Nat} {o : Oper} {r : List (Nat × Nat)} {K : St → Hp → Prop} {j d : Nat} {b : Bool} (ho : ops[i]? = some o) (hk : k = 1 → isLoad o.op = true) (hd : dOK n o.dst) (hg : o.guard = some (j, b)) (hj : ds[j]? = some (some d)) (hb : s.t d = .c (.bool (!b)))
  (h : ∀ K' : St → Hp → Prop, (∀ s σ, semD P T n ops ds r K s σ → K' s σ) → K' (s.putO o.dst (.c undef)) σ) : semD P T n ops ds ((i, k) :: r) K s σ := by
 simp only [semD, ho]
 exact ⟨hd, stC_gate (T := T) hk hg hj (.inl hb), by rw [hg, gate_some hj hb, if_neg (by cases b <;> simp)]; exact h _ fun _ _ h => h⟩
theorem D.un {ops : List Oper} {ds : List (Option Nat)} {i k : Nat} {o : Oper} {r : List (Nat × Nat)} {K : St → Hp → Prop} {j d : Nat} {b : Bool} (ho : ops[i]? = some o) (hk : k = 1 → isLoad o.op = true) (hd : dOK n o.dst) (hg : o.guard = some (j, b)) (hj : ds[j]? = some (some d)) (hb : s.t d = .c undef)
  (h : ∀ K' : St → Hp → Prop, (∀ s σ, semD P T n ops ds r K s σ → K' s σ) → K' (s.putO o.dst (.c undef)) σ) : semD P T n ops ds ((i, k) :: r) K s σ := by
 simp only [semD, ho]
 exact ⟨hd, stC_gate (T := T) hk hg hj (.inr hb), by rw [hg]; simp only [gate, hj, hb, undef]; exact h _ fun _ _ h => h⟩
theorem D.nil {ops : List Oper} {ds : List (Option Nat)} {K : St → Hp → Prop} (h : K s σ) : semD P T n ops ds [] K s σ := h
end
end Go.Abs
namespace Go.Abs
open Go
def fitsK (ks : List SK) : Value → Bool
  | .agg xs => fitsAll ks xs.toList
  | _ => false
theorem cellEq_bits {k : SK} {x y : Value} (n : Nat) (hx : k.fits x = true) (hy : k.fits y = true) (h : cellEq x y = true) : Instr.sameBits n y x = true := by
 cases k <;> cases x <;> simp [SK.fits] at hx <;> cases y <;> simp [SK.fits] at hy
 ·subst hx; subst hy
  simp [cellEq] at h
  cases n <;> simp [Instr.sameBits, h]
 ·simp [cellEq] at h
  cases n <;> simp [Instr.sameBits, beq_toListBytes, h]
 ·simp [cellEq] at h
  cases n <;> simp [Instr.sameBits, h]
theorem cells_bits : ∀ {ks : List SK} {xs ys : List Value} (n : Nat), fitsAll ks xs = true → fitsAll ks ys = true → cellsEq xs ys = true → xs.length = ys.length ∧ (ys.zip xs).all (fun p => Instr.sameBits n p.1 p.2) = true
  | [], [], [], _, _, _, _ => ⟨rfl, rfl⟩
  | [], _ :: _, _, _, h, _, _ => by simp [fitsAll] at h
  | [], [], _ :: _, _, _, h, _ => by simp [fitsAll] at h
  | _ :: _, [], _, _, h, _, _ => by simp [fitsAll] at h
  | _ :: _, _ :: _, [], _, _, h, _ => by simp [fitsAll] at h
  | k :: ks, x :: xs, y :: ys, n, hx, hy, h => by
    simp only [fitsAll, cellsEq, Bool.and_eq_true] at hx hy h
    obtain ⟨h1, h2⟩ := cells_bits n hx.2 hy.2 h.2
    exact ⟨by simp [h1], by simp only [List.zip_cons_cons, List.all_cons, Bool.and_eq_true]; exact ⟨cellEq_bits n hx.1 hy.1 h.1, h2⟩⟩
theorem KeyT.struct {P : Program} {kt : TypeId} {ks : List SK} {fs : Array Field} (hu : P.underlying kt = some (.struct fs)) (hE : EqT P kt ks)
    (hc : ∀ em (xs : List Value) (w : World), fitsAll ks xs = true → (Instr.checkKey em 10000 kt (.agg ⟨xs⟩)).run P w = .ok () w) : KeyT P kt (fitsK ks) := by
  have agg : ∀ x, fitsK ks x = true → ∃ xs, x = .agg ⟨xs⟩ ∧ fitsAll ks xs = true := fun x hx => by
    cases x <;> simp [fitsK] at hx
    rename_i xs
    exact ⟨xs.toList, rfl, hx⟩
  have ask : ∀ (x : Value) (ms : List MapEntry) (w : World) (i : Nat), fitsK ks x = true → (∀ m ∈ ms, fitsK ks m.key = true) → (Instr.findAsking kt x ms i).run P w = .ok (findM x ms i) w := by
    intro x ms w i hx
    induction ms generalizing i with
    | nil => intro _; rfl
    | cons m ms ih =>
      intro hm
      obtain ⟨xs, rfl, h1⟩ := agg x hx
      obtain ⟨ys, h2, h3⟩ := agg m.key (hm m List.mem_cons_self)
      have he := hE.2 xs ys h1 h3 w
      have ih' := ih (i + 1) (fun m' h' => hm m' (List.mem_cons_of_mem _ h'))
      simp only [Instr.findAsking, findM, h2, Sem.run_bind, he, Result.andThen_ok, sameK]
      cases cellsEq xs ys with
      | true => rfl
      | false => simpa using ih'
  refine ⟨fun em x w hx => ?_, fun x ms w hx hm => ?_, fun x y w hx hy hs => ?_⟩
  · obtain ⟨xs, rfl, h⟩ := agg x hx; exact hc em xs w h
  · have h1 := ask x ms w 0 hx hm
    unfold Instr.findKey
    rw [Sem.run_bind, run_underlying hu]
    simp only [Result.andThen_ok]
    cases ms with
    | nil => rfl
    | cons m ms =>
      have : Instr.findNow (.struct fs) x (m :: ms) 0 = none := by simp [Instr.findNow, Instr.sameNow]
      rw [this]
      exact h1
  · obtain ⟨xs, rfl, h1⟩ := agg x hx
    obtain ⟨ys, rfl, h2⟩ := agg y hy
    obtain ⟨h3, h4⟩ := cells_bits 9999 h1 h2 hs
    have : Instr.sameBits 10000 (.agg ⟨ys⟩) (.agg ⟨xs⟩) = true := by
      simp only [Instr.sameBits, Bool.and_eq_true]
      exact ⟨by simp [h3], h4⟩
    simp [Instr.keyThatStays, this]
section
variable {P : Program} {d : Nat} {xs ys : Array Value} {f : Field} {fs : List Field} {a b : Value} {r s : Bool} {w : World}
variable [Mode]
theorem eqF_one (hn : (f.name == "_") = false) (ha : (part f.type xs f.offset).run P w = .ok a w) (hb : (part f.type ys f.offset).run P w = .ok b w) (he : (Op.equalIn d f.type a b).run P w = .ok r w) : (Op.eqFields d xs ys [f]).run P w = .ok r w := by
 have hn' : f.name ≠ "_" := by simpa using hn
 simp only [Op.eqFields, if_pos hn', Sem.run_bind, ha, hb, he, Result.andThen_ok]
 cases r <;> simp
theorem eqF_more (hn : (f.name == "_") = false) (ha : (part f.type xs f.offset).run P w = .ok a w) (hb : (part f.type ys f.offset).run P w = .ok b w) (he : (Op.equalIn d f.type a b).run P w = .ok r w) (hr : (Op.eqFields d xs ys fs).run P w = .ok s w) : (Op.eqFields d xs ys (f :: fs)).run P w = .ok (r && s) w := by
 have hn' : f.name ≠ "_" := by simpa using hn
 rw [Op.eqFields]
 simp only [if_pos hn', Sem.run_bind, ha, hb, he, Result.andThen_ok]
 cases r
 ·simp
 ·simpa using hr
theorem eqF_of {t : TypeId} {fs : Array Field} (hu : P.underlying t = some (.struct fs)) (hp : P.stoodInHeld t = false) (h : (Op.eqFields d xs ys fs.toList).run P w = .ok r w) : (Op.equalIn (d + 1) t (.agg xs) (.agg ys)).run P w = .ok r w := by
 have hf : P.fieldsOf t = fs := by simp [Program.fieldsOf, hu]
 rw [run_equalIn_struct (P := P) w d t xs ys (by rw [hf]; exact hu) hp, hf]
 exact h
theorem run_guard_agg {op : BinOp} {t : TypeId} {x y : Operand} (h : P.eqGuardType P.depth t = false) (xs ys : Array Value) (w : World) : (eqGuard op t x y (.agg xs) (.agg ys)).run P w = .ok () w := by
 unfold eqGuard
 cases op <;> simp [h, Sem.run, Sem.run_bind, program]
end
end Go.Abs
namespace Go.Abs
open Go
section
variable {P : Program} {n : Nat} {s : St} {σ : Hp}
variable [Mode]
def retVR (k : V → Prop) : List V → Prop
  | [v] => k v
  | vs => k (.tup vs)
def retSR (P : Program) (rs : List ResultVar) (R : V → Hp → Prop) : Exit → St → Hp → Prop
  | .normal, s, σ | .ret, s, σ => resVs P s σ rs (retVR fun v => R v σ)
  | _, _, _ => False
theorem retVR_out {w : World} {cx : Cx} {vs : List V} {xs : List Value} {k : V → Prop} (hv : VAs w cx vs xs) (hk : retVR k vs) : ∃ v, k v ∧ VR w cx v (outV xs) := by
 have hl := hv.1
 have tup : VR w cx (.tup vs) (.tuple ⟨xs⟩) := .tup hv.1 hv.2
 match vs, xs with
 | [], [] => exact ⟨_, hk, tup⟩
 | [v], [x] => exact ⟨_, hk, hv.2 0 v x rfl rfl⟩
 | v :: u :: vs, x :: y :: xs => exact ⟨_, hk, tup⟩
 | [], x :: xs => simp at hl
 | [v], [] => simp at hl
 | [v], x :: y :: xs => simp at hl
 | v :: u :: vs, [] => simp at hl
 | v :: u :: vs, [x] => simp at hl
theorem ACalls.introR {f : FuncId} {fn : Func} {c : Code} {rs : List ResultVar} {args : List V} {R : V → Hp → Prop}
  (hcall : ∀ (xs : Array Value) (w : World), (callFunc f xs).run P w = .ok (.enter f xs) w)
  (hf : P.funcs[f]? = some fn) (hb : fn.body = some c) (hn : fn.ntmps = n) (hr : fn.results = ⟨rs⟩) (hl : args.length ≤ n)
  (h : AW P n c (retSR P rs R) (enterS args) σ) : ACalls P f args σ R := by
 refine ⟨hcall, fun cx w xs hH ha => calls_of_wpM hf hb ?_⟩
 have hlx : xs.length ≤ n := by rw [← ha.1]; exact hl
 let B : Base := { cx := cx, F := σ.own cx, w := w, g := fun k => ∃ y, σ.gr k = some y, o := fun g => ∃ y, σ.obj g = some y }
 have hfoot : foot cx σ (fun _ => none) = σ.own cx := by
  funext g
  refine propext ⟨fun hg => ?_, fun hg => .inl hg⟩
  rcases hg with hg | ⟨d, c, hd, _⟩
  ·exact hg
  ·cases hd
 have hSR : SR B n cx (enterS args) σ { tmps := (⟨xs⟩ : Array Value) ++ Array.replicate (fn.ntmps - xs.length) undef, defers := [] } w := by
  refine ⟨by simp [hn]; omega, Marks.nil, fun _ => rfl, fun t => ?_, hH, ⟨fun d c hd => (by cases hd), fun d c hd => (by cases hd), fun d e c c' hd => (by cases hd)⟩, ?_, fun k x hk => .inl ⟨x, hk⟩, fun g x hk => .inl ⟨x, hk⟩, fun g hs => hs.elim, fun g hs => hs.elim, fun d c hd => (by cases hd)⟩
  ·show TR w cx (args.getD t .junk) _
   by_cases ht : t < args.length
   ·have h1 : args[t]? = some args[t] := List.getElem?_eq_getElem ht
    have htx : t < xs.length := by rw [← ha.1]; exact ht
    have h2 : xs[t]? = some xs[t] := List.getElem?_eq_getElem htx
    have h3 := ha.2 t _ _ h1 h2
    have e1 : args.getD t .junk = args[t] := by simp [List.getD, h1]
    have e2 : ((⟨xs⟩ : Array Value) ++ Array.replicate (fn.ntmps - xs.length) undef).getD t undef = xs[t] := by
     simp [Array.getD_eq_getD_getElem?, Array.getElem?_append, htx]
    rw [e1]
    show TR w cx _ (((⟨xs⟩ : Array Value) ++ Array.replicate (fn.ntmps - xs.length) undef).getD t undef)
    rw [e2]
    exact .v h3
   ·have e1 : args.getD t .junk = .junk := by simp [List.getD, List.getElem?_eq_none (Nat.le_of_not_lt ht)]
    rw [e1]; exact .junk _
  ·show Ext cx (σ.own cx) w cx (foot cx σ fun _ => none) w
   rw [hfoot]; exact .refl _ _ _
 have fin : ∀ (e : Exit) (a : Act) (w' : World), QC B n (retSR P rs R) e a w' → bodyPostM Fence.wide 0 P fn (fun e w' => ∃ v r cx' σ', e = .returned r ∧ VR w' cx' v r ∧ Left cx σ w cx' σ' w' ∧ R v σ') e a w' := fun e a w' ⟨cx', s', σ', h1, h2⟩ => by
  have key : resVs P s' σ' rs (retVR fun v => R v σ') → LeavesInM Fence.wide 0 P fn a.tmps (fun e w' => ∃ v r cx' σ', e = .returned r ∧ VR w' cx' v r ∧ Left cx σ w cx' σ' w' ∧ R v σ') a.defers .returning w' := fun h2 =>
   leavesM ⟨fun g hg => hg, rfl⟩ a.defers w' h1 fun w'' h1 => by
    obtain ⟨vs, ys, h3, h4, h5⟩ := resVs_run h1 h2
    obtain ⟨u, h6, h7⟩ := retVR_out h4 h3
    refine ⟨outV ys, results_run hr _ _ h5, u, _, cx', σ', rfl, h7, ⟨h1.heap, ?_, h1.gnew, h1.onew⟩, h6⟩
    have he := h1.ext
    exact ⟨he.os, he.tape, he.output, he.size, he.block, he.le, he.inew, fun g hg => he.fnew g (.inl hg)⟩
  cases e with
  | normal => exact key h2
  | ret => exact key h2
  | _ => exact h2.elim
 exact wp_mono (h B cx _ w ⟨fun g hg => hg, rfl⟩ rfl hSR) fin
theorem retSR_normal {rs : List ResultVar} {R : V → Hp → Prop} : retSR P rs R .normal s σ = resVs P s σ rs (retVR fun v => R v σ) := rfl
theorem retSR_ret {rs : List ResultVar} {R : V → Hp → Prop} : retSR P rs R .ret s σ = resVs P s σ rs (retVR fun v => R v σ) := rfl
end
end Go.Abs
namespace Go.Abs
open Go
section
variable {P : Program} {T : Tab} {B : Base} {n : Nat} {cx cx' : Cx} {s : St} {σ σ' : Hp} {a : Act} {w w' : World} {K : St → Hp → Prop}
variable [Mode]
def schedC (P : Program) (ops : Array Oper) : List (Nat × Nat) → Array Bool → Array Bool → Bool
  | [], L, L1 => L == L1
  | (i, 0) :: r, L, L1 => ((ops[i]?).map fun o => pureOp P o.op).getD false && (Region.ready .any ops L).contains i && Region.free .any ops L i && schedC P ops r (L.setIfInBounds i true) L1
  | _ :: _, _, _ => false
theorem semD_pre (hT : T.ok P) {ops : Array Oper} (hs : Region.noSelect ops = true) {Q : Act → World → Prop} {fuel : Nat} {L1 : Array Bool}
    (hend : ∀ s a, SR B n cx s σ a w → K s σ → wpAnyH P .any ops (onlyN Q) (stillW B) fuel L1 a w) :
    ∀ (pre : List (Nat × Nat)) (L : Array Bool) {s : St} {a : Act}, schedC P ops pre L L1 = true → SR B n cx s σ a w → semD P T n ops.toList (ops.toList.map (·.dst)) pre K s σ →
      wpAnyH P .any ops (onlyN Q) (stillW B) (pre.length + fuel) L a w
  | [], L, s, a, hB, h, hk => by
    have e : L = L1 := by simpa [schedC] using hB
    subst e
    simpa using hend s a h hk
  | (i, 0) :: r, L, s, a, hB, h, hk => by
    simp only [schedC, Bool.and_eq_true] at hB
    obtain ⟨⟨⟨hp, hr⟩, hf⟩, hB2⟩ := hB
    simp only [semD] at hk
    cases hi : ops.toList[i]? with
    | none => simp [hi] at hk
    | some o =>
      simp only [hi] at hk
      obtain ⟨hd, _, hk⟩ := hk
      have hi' : ops[i]? = some o := by simpa using hi
      have take : ∀ {v : V} {x : Value}, (Region.wanted o (yielded ops a.tmps) = true ∧ (∀ w', stillW B w' → (execOp a.eval o).run P w' = .ok (.value x) w') ∨ Region.wanted o (yielded ops a.tmps) = false ∧ x = undef) → TR w cx v x →
          semD P T n ops.toList (ops.toList.map (·.dst)) r K (s.putO o.dst v) σ → wpAnyH P .any ops (onlyN Q) (stillW B) (((i, 0) :: r).length + fuel) L a w := fun {v x} hy hv hkr => by
        have h' := h.putO (dOK_spec hd) hv
        have e : ((i, 0) :: r).length + fuel = (r.length + fuel) + 1 := by simp; omega
        rw [e]
        exact wpAnyH_take hi' hs hf hr (fun _ _ _ hq => hq.elim) (v := x) hy h.stillW (semD_pre hT hs hend r _ hB2 h' hkr)
      simp only [hi', Option.map_some, Option.getD_some] at hp
      rcases gate_wanted (ops := ops) h hk with ⟨hw, hk⟩ | ⟨hw, hk⟩
      · obtain ⟨v, hv, hy⟩ := sem_pure hT hp hk
        obtain ⟨x, hx, ht⟩ := hy h
        exact take (.inl ⟨hw, fun w' _ => hx w'⟩) ht hv
      · exact take (.inr ⟨hw, rfl⟩) (.v (.c undef)) hk
  | (i, k + 1) :: r, L, s, a, hB, h, hk => by simp [schedC] at hB
theorem semD_step (hT : T.ok P) {ops : Array Oper} (hs : Region.noSelect ops = true) {Q : Act → World → Prop} (hsd : B.sd = T.sd) (hQ : ∀ a w, KC B n K a w → Q a w) {i : Nat} {r : List (Nat × Nat)} {L : Array Bool}
    (hB : schedB P ops r true (L.setIfInBounds i true) = true) (h : SR B n cx s σ a w) (hk : semD P T n ops.toList (ops.toList.map (·.dst)) ((i, 2) :: r) K s σ) :
    wpOp P ops (onlyN Q) i (fun a' w' => stillW B w' ∧ wpAnyH P .any ops (onlyN Q) (stillW B) r.length (L.setIfInBounds i true) a' w') a w := by
  simp only [semD] at hk
  cases hi : ops.toList[i]? with
  | none => simp [hi] at hk
  | some o =>
    simp only [hi] at hk
    obtain ⟨hd, _, hk⟩ := hk
    have hi' : ops[i]? = some o := by simpa using hi
    have next : ∀ a' w', KC B n (semD P T n ops.toList (ops.toList.map (·.dst)) r K) a' w' → stillW B w' ∧ wpAnyH P .any ops (onlyN Q) (stillW B) r.length (L.setIfInBounds i true) a' w' := fun a' w' ⟨cx', s', σ', h', hk'⟩ =>
      ⟨h'.stillW, wpAnyH_mono (S' := stillW (B.re cx' s'.l T.sd w')) (fun w'' hw g hg => (hw g (.inl hg)).trans (h'.stab g hg)) _ _ _ _
        (semD_sound hT hs r true _ rfl (fun a'' w'' ⟨cx2, s2, σ2, h2, hk2⟩ => hQ a'' w'' ⟨cx2, s2, σ2, h2.ofRe hsd (fun g hg => h'.stab g hg), hk2⟩) hB (h'.re hsd)
          (fun _ => ⟨fun g hg => .inr (.inl hg), fun d cells hd hl => .inr (.inr ⟨d, cells, hd, hl, rfl⟩)⟩) hk')⟩
    unfold wpOp
    simp only [hi']
    rcases gate_wanted (ops := ops) h hk with ⟨hw, hk⟩ | ⟨hw, hk⟩
    · simp only [hw, if_true]
      exact .inl (Oper.wp_mono next (sem_sound hT hsd hd h hk))
    · simp only [hw, Bool.false_eq_true, if_false]
      exact next _ _ ⟨cx, _, σ, h.putO (dOK_spec hd) (.v (.c undef)), hk⟩
theorem AW.draw2 {Q : Exit → St → Hp → Prop} (hT : T.ok P) (hm : P.follows .mixedOrders = true) {id : Nat} {l : List Oper} (pre : List (Nat × Nat)) (i j : Nat) (r : List (Nat × Nat)) (L1 : Array Bool) (hlen : pre.length + (r.length + 2) = l.length) (hs : Region.noSelect l.toArray = true)
  (hC : schedC P l.toArray pre (Array.replicate l.length false) L1 = true) (hr : (Region.ready .any l.toArray L1 == [i, j]) = true)
  (hBi : schedB P l.toArray ((j, 2) :: r) true (L1.setIfInBounds i true) = true) (hBj : schedB P l.toArray ((i, 2) :: r) true (L1.setIfInBounds j true) = true)
  (h : semD P T n l (l.map (·.dst)) pre (fun s σ => semD P T n l (l.map (·.dst)) ((i, 2) :: (j, 2) :: r) (fun s σ => Q .normal s σ) s σ ∧ semD P T n l (l.map (·.dst)) ((j, 2) :: (i, 2) :: r) (fun s σ => Q .normal s σ) s σ) s σ) :
  AW P n (.region id l.toArray true) Q s σ :=
 fun B cx a w h1 _ h3 => by
  have h4 := h3.drew
  have h5 := h4.toAt T.sd
  refine wp_mono (Q := onlyN (fun a w => QC B n Q .normal a w)) (wp_region_held (S := stillW (B.at cx s.l T.sd w.drew)) hm ?_) (fun e a w hq => by cases e <;> first | exact hq | exact hq.elim)
  have hQ : ∀ a' w', KC (B.at cx s.l T.sd w.drew) n (fun s σ => Q .normal s σ) a' w' → QC B n Q .normal a' w' := fun a w ⟨cx', s', σ', h6, h7⟩ => ⟨cx', s', σ', h6.ofAt h1, h7⟩
  have := semD_pre hT hs (B := B.at cx s.l T.sd w.drew) (Q := fun a w => QC B n Q .normal a w) (fuel := r.length + 2) (L1 := L1)
   (K := fun s σ => semD P T n l (l.map (·.dst)) ((i, 2) :: (j, 2) :: r) (fun s σ => Q .normal s σ) s σ ∧ semD P T n l (l.map (·.dst)) ((j, 2) :: (i, 2) :: r) (fun s σ => Q .normal s σ) s σ) (fun s' a' h6 h7 => by
   refine wpAnyH_all (rs := [i, j]) (by simpa using hr) (by simp) (fun q hq => ?_)
   rcases List.mem_cons.1 hq with rfl | hq
   ·exact semD_step hT hs rfl hQ hBi h6 (by simpa using h7.1)
   ·have hq : q = j := by simpa using hq
    subst hq
    exact semD_step hT hs rfl hQ hBj h6 (by simpa using h7.2)) pre (Array.replicate l.length false) hC h5 (by simpa using h)
  rw [hlen] at this
  simpa using this
end
end Go.Abs
namespace Go.Abs
open Go
def Fit (P : Program) : Nat → TypeId → List V → Prop
  | 0, _, _ => False
  | n + 1, t, us => match P.underlying t with
    | some .bool => ∃ b, us = [.c (.bool b)]
    | some (.int k) => ∃ x, us = [.c (.int k x)] ∧ (Lit.int k x).wf = true
    | some .string => ∃ s : ByteArray, us = [.c (.string s)] ∧ s.size ≤ reachBytes
    | some (.slice e) => ∃ es : List (List V), us = [.sl es] ∧ es.length * P.bytesOf e ≤ reachBytes ∧ ∀ x ∈ es, x.length = P.cellsOf e ∧ Fit P n e x
    | some (.struct fs) => us.length = P.cellsOf t ∧ ∀ f ∈ fs.toList, Fit P n f.type ((us.drop f.offset).take (P.cellsOf f.type))
    | _ => False
def contigB (P : Program) (n : Nat) : Nat → List Field → Bool
  | o, [] => o == n
  | o, f :: fs => f.offset == o && contigB P n (o + P.cellsOf f.type) fs
def plainB (P : Program) (ts : List TypeId) : Bool := ts.all fun t => match P.underlying t with
  | some .bool | some (.int _) | some .string => true
  | some (.slice e) => ts.contains e && P.cellsOf e != 0
  | some (.struct fs) => (fs.toList.all fun f => ts.contains f.type) && contigB P (P.cellsOf t) 0 fs.toList
  | _ => false
def cx0 (W : World) : Cx := { I := fun g => g < W.heap.size, M := fun _ => .slice none 0 0, Z := fun _ => 0, nm := 0, L := fun _ => 0 }
theorem HR0 (W : World) : HR (cx0 W) Hp.empty W where
 obj g cells h := by cases h
 gr k T es h := by cases h
 two k k' x x' g h := by cases h
 mix k x g cells h := by cases h
 apart g h := (own_empty h).elim
 ilt g h := h
section
variable {H : Type} {enc : TypeId × Value → H} {P : Program} {W : World} {held : Bool}
variable [Mode]
theorem lt_of_cell {w : World} {a : Addr} {v : Value} (h : w.cell? a = some v) : a.block < w.heap.size := by
 unfold World.cell? at h
 split at h
 ·rename_i h1; exact lt_of_block h1
 ·cases h
theorem weightsAll_mem {e : TypeId} : ∀ {ds : List (DataW H)} {d : DataW H}, d ∈ ds → ∀ n ∈ d.weights P e, n ∈ DataW.weightsAll P e ds
  | d0 :: ds, d, hd, n, hn => by
    simp only [DataW.weightsAll, List.mem_append]
    rcases List.mem_cons.1 hd with rfl | hd
    · exact .inl hn
    · exact .inr (weightsAll_mem hd n hn)
theorem contig_le {P : Program} {n : Nat} : ∀ {fs : List Field} {o : Nat}, contigB P n o fs = true → o ≤ n ∧ ∀ f ∈ fs, o ≤ f.offset
  | [], o, h => ⟨by simp [contigB] at h; omega, fun _ h => by cases h⟩
  | f :: fs, o, h => by
    simp only [contigB, Bool.and_eq_true, beq_iff_eq] at h
    obtain ⟨h1, h2⟩ := contig_le h.2
    refine ⟨by omega, fun g hg => ?_⟩
    rcases List.mem_cons.1 hg with rfl | hg
    · omega
    · have := h2 g hg; omega
theorem open_fields {P : Program} {cx : Cx} {Ft : TypeId → List V → Prop} {cs : List Value} {n : Nat} (hn : cs.length = n) : ∀ (fs : List Field) (o : Nat), contigB P n o fs = true →
    (∀ f ∈ fs, ∃ us, VRs W cx us ((cs.drop f.offset).take (P.cellsOf f.type)) ∧ Ft f.type us) →
    ∃ us, VRs W cx us (cs.drop o) ∧ us.length = n - o ∧ ∀ f ∈ fs, Ft f.type ((us.drop (f.offset - o)).take (P.cellsOf f.type))
  | [], o, h, _ => by
    simp [contigB] at h
    exact ⟨[], by rw [List.drop_of_length_le (by omega)]; exact .nil, by simp; omega, fun _ h => by cases h⟩
  | f :: fs, o, h, hf => by
    simp only [contigB, Bool.and_eq_true, beq_iff_eq] at h
    obtain ⟨h1, h2⟩ := h
    obtain ⟨hle, hof⟩ := contig_le h2
    obtain ⟨ur, hr1, hr2, hr3⟩ := open_fields hn fs (o + P.cellsOf f.type) h2 (fun g hg => hf g (List.mem_cons_of_mem _ hg))
    obtain ⟨uf, hf1, hf2⟩ := hf f List.mem_cons_self
    rw [h1] at hf1
    have hlf : uf.length = P.cellsOf f.type := by rw [hf1.1, List.length_take, List.length_drop]; omega
    refine ⟨uf ++ ur, ?_, by simp [hlf, hr2]; omega, fun g hg => ?_⟩
    · have := hf1.append hr1
      rw [← List.drop_drop, List.take_append_drop] at this
      exact this
    · rcases List.mem_cons.1 hg with rfl | hg
      · rw [h1, Nat.sub_self, List.drop_zero, ← hlf, List.take_left]; exact hf2
      · have h4 := hof g hg
        have h5 := hr3 g hg
        rw [List.drop_append, List.drop_of_length_le (by omega), List.nil_append, hlf, show g.offset - o - P.cellsOf f.type = g.offset - (o + P.cellsOf f.type) by omega]
        exact h5
theorem choose_below {α : Type} [Inhabited α] {n : Nat} {p : Nat → α → Prop} (h : ∀ i, i < n → ∃ x, p i x) : ∃ f : Nat → α, ∀ i, i < n → p i (f i) := by
 classical
 refine ⟨fun i => if hi : i < n then Classical.choose (h i hi) else default, fun i hi => ?_⟩
 simp only [dif_pos hi]
 exact Classical.choose_spec (h i hi)
theorem weightsEach_mem : ∀ {ts : List TypeId} {ds : List (DataW H)} {i : Nat} {t : TypeId} {d : DataW H}, ts[i]? = some t → ds[i]? = some d → ∀ n ∈ d.weights P t, n ∈ DataW.weightsEach P ts ds := DataW.weights_mem_each
theorem open_row (ts : List TypeId) (hts : plainB P ts = true) : ∀ (fuel : Nat) (t : TypeId) (cs : List Value) (d : DataW H) (ps : List MemPlace), t ∈ ts →
    DataW.trod enc P W 0 (fun _ => true) held fuel t cs = some (d, ps) → (∀ n ∈ d.weights P t, n ≤ reachBytes) → ∃ us, VRs W (cx0 W) us cs ∧ Fit P fuel t us := by
  intro fuel
  induction fuel with
  | zero => intro t cs d ps _ h; simp [DataW.trod] at h
  | succ fuel ih =>
    intro t cs d ps ht h hwt
    have hpl := List.all_eq_true.1 hts t ht
    split at hpl
    · rename_i hu
      unfold DataW.trod at h
      rw [hu] at h
      split at h <;> simp_all
      rename_i b
      exact ⟨[.c (.bool b)], VRs.cons rfl (.c _) .nil, by simp [Fit, hu]⟩
    · rename_i k hu
      unfold DataW.trod at h
      rw [hu] at h
      split at h <;> simp_all
      rename_i k' n hk
      subst hk
      exact ⟨[.c (.int _ n)], VRs.cons rfl (.c _) .nil, by simp [Fit, hu, h.1.2]⟩
    · rename_i hu
      unfold DataW.trod at h
      rw [hu] at h
      split at h <;> simp_all
      rename_i s
      refine ⟨[.c (.string s)], VRs.cons rfl (.c _) .nil, ?_⟩
      rw [← h.2.1] at hwt
      simp [Fit, hu]
      simpa [DataW.weights] using hwt
    · rename_i e hu
      simp only [Bool.and_eq_true, bne_iff_ne, ne_eq, List.contains_iff_mem] at hpl
      obtain ⟨het, hce⟩ := hpl
      rcases DataW.trod_slice hu h with ⟨rfl, _⟩ | ⟨a, len, cap, elems, rest, n, hn, rfl, hx, hb, hl, hm, hlen, hel, hsp, hns⟩
      · exact ⟨[.sl []], VRs.cons rfl .nils .nil, by simp [Fit, hu]⟩
      · obtain rfl : fuel = n := by omega
        simp only [Prod.mk.injEq] at hx
        obtain ⟨hd, -⟩ := hx
        subst hd
        have hw0 := hwt _ (by simp only [DataW.weights, hu]; exact List.mem_cons_self)
        have hwe : ∀ i (x : DataW H × List MemPlace), elems[i]? = some x → ∀ m ∈ x.1.weights P e, m ≤ reachBytes := fun i x hi m hmm =>
          hwt m (by simp only [DataW.weights, hu]; exact List.mem_cons_of_mem _ (List.mem_append_left _ (weightsAll_mem (List.mem_map.2 ⟨x, List.mem_of_getElem? hi, rfl⟩) m hmm)))
        have hex : ∀ i, i < len → ∃ us : List V, ∃ cs', W.cells? 0 (a.add (i * P.cellsOf e)) (P.cellsOf e) = some cs' ∧ VRs W (cx0 W) us cs' ∧ Fit P fuel e us := fun i hi => by
          have h1 := hel i hi
          rw [List.getElem?_eq_getElem (by omega)] at h1
          obtain ⟨cs', h2, h3⟩ := Option.bind_eq_some_iff.1 h1
          obtain ⟨us, h4, h5⟩ := ih e cs' _ _ het h3 (hwe i _ (List.getElem?_eq_getElem (by omega)))
          exact ⟨us, cs', h2, h4, h5⟩
        by_cases h0 : cap = 0
        · have hl0 : len = 0 := by omega
          subst h0; subst hl0
          exact ⟨[.sl []], VRs.cons rfl (.nile a) .nil, by simp [Fit, hu]⟩
        · obtain ⟨b, o, sp⟩ := a
          -- the address is a plain one, and its block is there
          have hfirst : ∃ v, W.cell? ⟨b, o, sp⟩ = some v := by
            by_cases hl0 : 0 < len
            · obtain ⟨us, cs', h2, h3, _⟩ := hex 0 hl0
              obtain ⟨_, hcl, hce'⟩ := World.cells?_some h2
              have := hce' 0 (by omega)
              rw [Nat.zero_mul] at this
              have e0 : ((⟨b, o, sp⟩ : Addr).add 0).add 0 = ⟨b, o, sp⟩ := rfl
              rw [e0] at this
              rw [this]
              exact ⟨cs'[0]'(by omega), List.getElem?_eq_getElem (by omega)⟩
            · have hl0 : len = 0 := by omega
              subst hl0
              obtain ⟨hr, hr2⟩ := hsp rfl
              have h1 := hr2 0 (by omega)
              rw [List.getElem?_eq_getElem (by omega)] at h1
              obtain ⟨cs', h2, h3⟩ := Option.bind_eq_some_iff.1 h1
              obtain ⟨_, hcl, hce'⟩ := World.cells?_some h2
              have := hce' 0 (by omega)
              have e0 : ((⟨b, o, sp⟩ : Addr).add ((0 + 0) * P.cellsOf e)).add 0 = ⟨b, o, sp⟩ := by simp [Addr.add]
              rw [e0] at this
              rw [this]
              exact ⟨cs'[0]'(by omega), List.getElem?_eq_getElem (by omega)⟩
          obtain ⟨v0, hv0⟩ := hfirst
          obtain rfl : sp = none := World.cell?_spot hv0
          have hbI : (cx0 W).I b := lt_of_cell hv0
          obtain ⟨F, hF⟩ := choose_below (p := fun i (us : List V) => ∃ cs', W.cells? 0 ((⟨b, o, none⟩ : Addr).add (i * P.cellsOf e)) (P.cellsOf e) = some cs' ∧ VRs W (cx0 W) us cs' ∧ Fit P fuel e us) hex
          obtain ⟨G, hG⟩ := choose_below (p := fun i (cs' : List Value) => W.cells? 0 ((⟨b, o, none⟩ : Addr).add (i * P.cellsOf e)) (P.cellsOf e) = some cs' ∧ VRs W (cx0 W) (F i) cs' ∧ Fit P fuel e (F i)) hF
          have hGl : ∀ i, i < len → (G i).length = P.cellsOf e := fun i hi => (World.cells?_some (hG i hi).1).2.1
          have hFl : ∀ i, i < len → (F i).length = P.cellsOf e := fun i hi => by rw [(hG i hi).2.1.1]; exact hGl i hi
          have hgi : ∀ (i : Nat) (x : List V), ((List.range len).map F)[i]? = some x → i < len ∧ x = F i := fun i x hx => by
            rw [List.getElem?_map] at hx
            by_cases hi : i < len
            · simp [hi] at hx; exact ⟨hi, hx.symm⟩
            · simp [hi] at hx
          refine ⟨[.sl ((List.range len).map F)], VRs.cons rfl ?_ .nil, ?_⟩
          · have := VR.sl (w := W) (cx := cx0 W) (es := (List.range len).map F) (sz := P.cellsOf e) (b := b) (o := o) (cap := cap) (fun i j => (G i).getD j undef) hbI (by simpa using hl)
              (fun i x hx => by obtain ⟨hi, rfl⟩ := hgi i x hx; exact hFl i hi)
              (fun i j hi hj => by
                have hi : i < len := by simpa using hi
                obtain ⟨_, _, hc⟩ := World.cells?_some (hG i hi).1
                have := hc j hj
                rw [Addr.add_lit, Addr.add_lit] at this
                rw [this, List.getElem?_eq_getElem (by rw [hGl i hi]; exact hj)]
                simp [List.getD, List.getElem?_eq_getElem (show j < (G i).length by rw [hGl i hi]; exact hj)])
              (fun i x j v hx hv => by
                obtain ⟨hi, rfl⟩ := hgi i x hx
                have hj : j < (G i).length := by
                  have := (List.getElem?_eq_some_iff.1 hv).1
                  rw [hFl i hi] at this; rw [hGl i hi]; exact this
                have := (hG i hi).2.1.2.2 j v ((G i)[j]) hv (List.getElem?_eq_getElem hj)
                simpa [List.getD, List.getElem?_eq_getElem hj] using this)
              (fun i j hi hj => by
                have hi : i < len := by simpa using hi
                have hj : j < (G i).length := by rw [hGl i hi]; exact hj
                have := (hG i hi).2.1.2.1 ((G i)[j]) (List.getElem_mem hj)
                simpa [List.getD, List.getElem?_eq_getElem hj] using this)
            simpa using this
          · simp only [Fit, hu]
            refine ⟨_, rfl, ?_, fun x hx => ?_⟩
            · rw [List.length_map, List.length_range]
              rw [List.length_map, hlen] at hw0
              exact Nat.le_trans (Nat.mul_le_mul_right _ (Nat.le_add_right _ _)) hw0
            · obtain ⟨i, hi, rfl⟩ := List.mem_map.1 hx
              have hi : i < len := by simpa using hi
              exact ⟨hFl i hi, (hG i hi).2.2⟩
    · rename_i fs hu
      rw [Bool.and_eq_true] at hpl
      obtain ⟨hpl, hco⟩ := hpl
      have hpl : ∀ f ∈ fs.toList, f.type ∈ ts := fun f hf => by
        have := List.all_eq_true.1 hpl f hf; simpa using this
      obtain ⟨xs, n, hn, hx, hcl, hxl, hfs⟩ := DataW.trod_struct hu h
      obtain rfl : fuel = n := by omega
      simp only [Prod.mk.injEq] at hx
      obtain ⟨hd, -⟩ := hx
      subst hd
      obtain ⟨us, h1, h2, h3⟩ := open_fields (W := W) (cx := cx0 W) (Ft := Fit P fuel) hcl fs.toList 0 hco (fun f hf => by
        obtain ⟨i, hi, hfi⟩ := List.getElem_of_mem hf
        have hi' : i < fs.size := by simpa using hi
        have hfi' : fs[i]? = some f := by rw [Array.getElem?_eq_getElem hi']; simpa using hfi
        have h4 := hfs i f hfi'
        rw [List.getElem?_eq_getElem (by omega)] at h4
        refine ih f.type _ _ _ (hpl f hf) h4 (fun m hm => hwt m ?_)
        simp only [DataW.weights, hu]
        refine weightsEach_mem (i := i) (t := f.type) (d := (xs[i]'(by omega)).1) ?_ ?_ m hm
        · rw [List.getElem?_map, List.getElem?_eq_getElem hi, hfi]; rfl
        · rw [List.getElem?_map, List.getElem?_eq_getElem (by omega)]; rfl)
      rw [List.drop_zero] at h1
      exact ⟨us, h1, by simp only [Fit, hu]; exact ⟨by simpa using h2, by simpa using h3⟩⟩
    · cases hpl
end
end Go.Abs
namespace Go.Abs
open Go
section
variable {P : Program} {n : Nat} {t e : TypeId} {us : List V}
variable [Mode]
theorem Fit.int {k : IntKind} (hu : P.underlying t = some (.int k)) (h : Fit P n t us) : ∃ x, us = [.c (.int k x)] ∧ (Lit.int k x).wf = true := by
 cases n with
 | zero => exact h.elim
 | succ n => simpa only [Fit, hu] using h
theorem Fit.bool (hu : P.underlying t = some .bool) (h : Fit P n t us) : ∃ b, us = [.c (.bool b)] := by
 cases n with
 | zero => exact h.elim
 | succ n => simpa only [Fit, hu] using h
theorem Fit.str (hu : P.underlying t = some .string) (h : Fit P n t us) : ∃ s : ByteArray, us = [.c (.string s)] ∧ s.size ≤ reachBytes := by
 cases n with
 | zero => exact h.elim
 | succ n => simpa only [Fit, hu] using h
theorem Fit.sl (hu : P.underlying t = some (.slice e)) (h : Fit P n t us) : ∃ es : List (List V), us = [.sl es] ∧ es.length * P.bytesOf e ≤ reachBytes ∧ ∃ m, m < n ∧ ∀ x ∈ es, x.length = P.cellsOf e ∧ Fit P m e x := by
  cases n with
  | zero => exact h.elim
  | succ n =>
    simp only [Fit, hu] at h
    obtain ⟨es, h1, h2, h3⟩ := h
    exact ⟨es, h1, h2, n, Nat.lt_succ_self n, h3⟩
theorem Fit.st {fs : Array Field} (hu : P.underlying t = some (.struct fs)) (h : Fit P n t us) : us.length = P.cellsOf t ∧ ∃ m, m < n ∧ ∀ (i : Nat) f, fs[i]? = some f → Fit P m f.type ((us.drop f.offset).take (P.cellsOf f.type)) := by
  cases n with
  | zero => exact h.elim
  | succ n =>
    simp only [Fit, hu] at h
    exact ⟨h.1, n, Nat.lt_succ_self n, fun i f hf => h.2 f (by rw [Array.mem_toList_iff]; exact Array.mem_of_getElem? hf)⟩
theorem rows_of {α : Type} {f : α → List V} {p : α → Prop} : ∀ {es : List (List V)}, (∀ x ∈ es, ∃ a, x = f a ∧ p a) → ∃ l : List α, es = l.map f ∧ ∀ a ∈ l, p a
  | [], _ => ⟨[], rfl, fun _ h => by cases h⟩
  | x :: es, h => by
    obtain ⟨a, h1, h2⟩ := h x List.mem_cons_self
    obtain ⟨l, h3, h4⟩ := rows_of (es := es) fun y hy => h y (List.mem_cons_of_mem _ hy)
    exact ⟨a :: l, by rw [h1, h3]; rfl, fun b hb => by
      rcases List.mem_cons.1 hb with rfl | hb
      · exact h2
      · exact h4 b hb⟩
theorem open_arg {H : Type} {enc : TypeId × Value → H} {W : World} {v : Value} {d : DataW H} {ps : List MemPlace} (ts : List TypeId) (hts : plainB P ts = true) (ht : t ∈ ts)
  (h : DataW.Trod enc P W 0 (fun _ => true) true t v d ps) (hw : ∀ n ∈ d.weights P t, n ≤ reachBytes) : ∃ n us, VRs W (cx0 W) us v.cells.toList ∧ Fit P n t us := by
 obtain ⟨fuel, hf⟩ := h
 obtain ⟨us, h1, h2⟩ := open_row ts hts fuel t _ d ps ht hf hw
 exact ⟨fuel, us, h1, h2⟩
theorem VR.of_cell {w : World} {cx : Cx} {u : V} {v : Value} (h : VRs w cx [u] v.cells.toList) (ha : ∀ cs, v ≠ .agg cs) : VR w cx u v := by
 have hc : v.cells.toList = [v] := by
  cases v <;> first | rfl | exact absurd rfl (ha _)
 rw [hc] at h
 exact h.2.2 0 u v rfl rfl
theorem VR.of_row {w : World} {cx : Cx} {us : List V} {cs : Array Value} (h : VRs w cx us (Value.agg cs).cells.toList) : VR w cx (.agg us) (.agg cs) := by
 have : VRs w cx us cs.toList := h
 have := this.agg
 simpa using this
theorem PCalls.below {f : FuncId} {args : List V} {R : V → Prop} (h : PCalls P f args R) {W : World} {xs : List Value} (ha : VAs W (cx0 W) args xs) :
  Calls P f ⟨xs⟩ W (fun e w' => ∃ v r cx', e = .returned r ∧ VR w' cx' v r ∧ R v ∧ RowKit.Below W.heap.size W w') := by
 refine (h.2 (cx0 W) W xs (HR0 W) ha).mono fun e w' ⟨v, r, cx', σ', h1, h2, h3, h4, h5⟩ => ⟨v, r, cx', h1, h2, h5, ⟨h3.ext.os, h3.ext.tape, h3.ext.output.1, h3.ext.size, fun k hk => h3.ext.block k hk own_empty⟩⟩
end
end Go.Abs
namespace Go.Abs
open Go
def ze := (And.intro (And.intro (And.intro (And.intro (And.intro @Go.Abs.ev.eq_1 (And.intro @Go.Abs.ev.eq_2 @Go.Abs.ev.eq_3)) (And.intro (And.intro @Go.Abs.ev.eq_4 @Go.Abs.ofC.eq_1) (And.intro @Go.Abs.ofC.eq_2 @Go.Abs.St.putO.eq_1))) (And.intro (And.intro (And.intro @Go.Abs.St.putO.eq_2 @Go.Abs.St.put_t) (And.intro @Go.Abs.St.put_l @Go.Abs.St.new_t)) (And.intro (And.intro @Go.Abs.St.new_l @Go.Abs.St.setl_t) (And.intro @Go.Abs.St.setl_l @Go.Abs.kill.eq_1)))) (And.intro (And.intro (And.intro @Go.Abs.kill.eq_2 (And.intro @Go.Abs.enterS_t @Go.Abs.enterS_l)) (And.intro (And.intro @List.getD_cons_zero.{0} @List.getD_cons_succ.{0}) (And.intro @Option.some.injEq.{0} @true_and))) (And.intro (And.intro (And.intro @and_true @Int.toNat_natCast) (And.intro @List.length_map.{0,0} @Array.length_toList.{0})) (And.intro (And.intro @List.length_cons.{0} @List.length_nil.{0}) (And.intro @Go.Abs.Hp.setObj_obj @Go.Abs.Hp.setObj_gr))))) (And.intro (And.intro (And.intro (And.intro @Go.Abs.Hp.setGr_gr (And.intro @Go.Abs.Hp.setGr_obj @Go.Abs.Hp.setObj_setObj)) (And.intro (And.intro @Go.Abs.Hp.setGr_setGr @Go.Abs.Hp.empty_setGr) (And.intro @Go.Abs.Hp.empty_setObj @Go.Abs.retSR_normal))) (And.intro (And.intro (And.intro @Go.Abs.retSR_ret @Go.Abs.retVR.eq_1) (And.intro @Go.Abs.retVR.eq_2 @Go.Abs.thenS_normal)) (And.intro (And.intro @Go.Abs.thenS_ret @Go.Abs.thenS_exit) (And.intro @Go.Abs.inBlockS_normal @Go.Abs.inBlockS_ret)))) (And.intro (And.intro (And.intro (And.intro @Go.Abs.inBlockS_exit @Go.Abs.retS_normal) (And.intro @Go.Abs.retS_ret @Go.Abs.resVs.eq_1)) (And.intro (And.intro @Go.Abs.resVs.eq_2 @Go.Abs.resV.eq_1) (And.intro @Go.Abs.resV.eq_2 @Go.Abs.retV.eq_1))) (And.intro (And.intro (And.intro @Go.Abs.retV.eq_2 @Go.Abs.okV.eq_1) (And.intro @Go.Abs.okV.eq_2 @Go.Abs.okV.eq_3)) (And.intro (And.intro @Go.Abs.wk.eq_1 @Go.Abs.wk.eq_2) (And.intro @Go.Abs.wk1.eq_1 @Go.Abs.wk1.eq_2))))))
def zs := And.intro ze (And.intro (And.intro (And.intro (And.intro @ne_eq.{1} @imp_self) (And.intro @false_implies @Bool.not_true)) (And.intro (And.intro @Bool.not_false @Bool.false_eq_true) (And.intro @implies_true.{1} @not_true_eq_false))) (And.intro (And.intro (And.intro @not_false_eq_true @Nat.le_refl) (And.intro @Nat.zero_add @Nat.add_zero)) (And.intro (And.intro @Int.ofNat_lt @Int.ofNat_le) (And.intro @Int.natCast_nonneg (And.intro @decide_true @decide_false)))))
def zn := And.intro zs (And.intro (And.intro (And.intro (And.intro (And.intro (And.intro (And.intro @Go.Abs.semOp.eq_1 @Go.Abs.semConv.eq_def) (And.intro @Go.Abs.qConv.eq_1 (And.intro @Go.Abs.qConv.eq_2 @Go.Abs.srcE.eq_1))) (And.intro (And.intro @Go.Abs.srcE.eq_2 (And.intro @Go.Abs.srcE.eq_3 @Go.Abs.srcE.eq_4)) (And.intro @Go.Abs.qExtract.eq_1 (And.intro @Go.Abs.qExtract.eq_2 @Go.Abs.qNil.eq_1)))) (And.intro (And.intro (And.intro @Go.Abs.qNil.eq_2 @Go.Abs.qNil.eq_3) (And.intro @Go.Abs.qNil.eq_4 (And.intro @Go.Abs.qNil.eq_5 @Go.Abs.qNil.eq_6))) (And.intro (And.intro @Go.Abs.str_nil (And.intro @Go.Abs.semBin.eq_1 @List.map_eq_nil_iff.{0,0})) (And.intro @Go.Abs.isNilC.eq_1 (And.intro @Go.Abs.isNilC.eq_2 @Go.Abs.nilCmp.eq_1))))) (And.intro (And.intro (And.intro (And.intro @Go.Abs.nilCmp.eq_2 @Go.Abs.nilCmp.eq_3) (And.intro @Go.Abs.qBin.eq_1 (And.intro @Go.Abs.qBin.eq_2 @Go.Abs.qBin.eq_3))) (And.intro (And.intro @Go.Abs.qBin.eq_4 (And.intro @Go.Abs.qBin.eq_5 @Go.Abs.qBin.eq_6)) (And.intro @Go.Abs.qBin.eq_7 (And.intro @Go.Abs.qBin.eq_8 @Go.Abs.qBin.eq_9)))) (And.intro (And.intro (And.intro @Go.Abs.qBin.eq_10 (And.intro @Go.Abs.qBin.eq_11 @Go.Abs.qBin.eq_12)) (And.intro @Go.Abs.qBin.eq_13 (And.intro @Go.Abs.qBin.eq_14 @Go.Abs.qBin.eq_15))) (And.intro (And.intro @Go.Abs.qBin.eq_16 (And.intro @Go.Abs.iBin.eq_1 @Go.Abs.iBin.eq_2)) (And.intro @Go.Abs.iBin.eq_3 (And.intro @Go.Abs.iBin.eq_4 @Go.Abs.iBin.eq_5)))))) (And.intro (And.intro (And.intro (And.intro (And.intro @Go.Abs.iBin.eq_6 @Go.Abs.iBin.eq_7) (And.intro @Go.Abs.iBin.eq_8 (And.intro @Go.Abs.iBin.eq_9 @Go.Abs.iBin.eq_10))) (And.intro (And.intro @Go.Abs.iBin.eq_11 (And.intro @Go.Abs.iBin.eq_12 @Go.Abs.iBin.eq_13)) (And.intro @Go.Abs.iBin.eq_14 (And.intro @Go.Abs.iBin.eq_15 @Go.Abs.iBin.eq_16)))) (And.intro (And.intro (And.intro @Go.Abs.iBin.eq_17 (And.intro @Go.Abs.sBin.eq_1 @Go.Abs.sBin.eq_2)) (And.intro @Go.Abs.sBin.eq_3 (And.intro @Go.Abs.sBin.eq_4 @Go.Abs.sBin.eq_5))) (And.intro (And.intro @Go.Abs.sBin.eq_6 (And.intro @Go.Abs.sBin.eq_7 @Go.Abs.sBin.eq_8)) (And.intro @Go.Abs.qUn.eq_1 (And.intro @Go.Abs.qUn.eq_2 @Go.Abs.qUn.eq_3))))) (And.intro (And.intro (And.intro (And.intro @Go.Abs.qUn.eq_4 @Go.Abs.qUn.eq_5) (And.intro @Go.Abs.qUn.eq_6 (And.intro @Go.Abs.qLoad.eq_1 @Go.Abs.qLoad.eq_2))) (And.intro (And.intro @Go.Abs.qLoad.eq_3 (And.intro @Go.Abs.qLoad.eq_4 @Go.Abs.qLoad.eq_5)) (And.intro @Go.Abs.cut.eq_1 (And.intro @List.drop_zero.{0} @List.take_succ_cons.{0})))) (And.intro (And.intro (And.intro @List.take_zero.{0} (And.intro @List.drop_succ_cons.{0} @Go.Abs.semStore.eq_1)) (And.intro @Go.Abs.cellsV.eq_1 (And.intro @Go.Abs.cellsV.eq_2 @Go.Abs.cellsV.eq_3))) (And.intro (And.intro @Go.Abs.cellsV.eq_4 (And.intro @Go.Abs.cellsV.eq_5 @Go.Abs.cellsV.eq_6)) (And.intro @Go.Abs.cellsV.eq_7 (And.intro @Go.Abs.flag.eq_1 @Go.Abs.flag.eq_2))))))) (And.intro (And.intro (And.intro (And.intro (And.intro (And.intro @Go.Abs.splice.eq_1 @List.nil_append.{0}) (And.intro @List.cons_append.{0} (And.intro @List.append_nil.{0} @List.drop_nil.{0}))) (And.intro (And.intro @Go.Abs.semAlloc.eq_1 (And.intro @Go.Abs.semAlloc.eq_2 @Go.Value.cells.eq_1)) (And.intro @Go.Value.cells.eq_2 (And.intro @Go.Abs.oneAll.eq_1 @List.all_cons.{0})))) (And.intro (And.intro (And.intro @List.all_nil.{0} (And.intro @Go.Value.oneCell'.eq_1 @Go.Value.oneCell'.eq_2)) (And.intro @Go.Value.oneCell'.eq_3 (And.intro @Bool.and_self @List.map.eq_1.{0,0}))) (And.intro (And.intro @List.map.eq_2.{0,0} (And.intro @Go.Abs.semBox.eq_def @Go.Abs.semCall.eq_1)) (And.intro @Go.Abs.qLen.eq_1 (And.intro @Go.Abs.qLen.eq_2 @Go.Abs.qLen.eq_3))))) (And.intro (And.intro (And.intro (And.intro @Go.Abs.qLen.eq_4 (And.intro @Go.Abs.qLen.eq_5 @Go.Abs.qLen.eq_6)) (And.intro @Bool.and_true (And.intro @Go.Abs.semAppend.eq_1 @Go.Abs.dstE.eq_1))) (And.intro (And.intro @Go.Abs.dstE.eq_2 (And.intro @Go.Abs.dstE.eq_3 @Go.Abs.Hp.delO.eq_1)) (And.intro @Go.Abs.Hp.delO.eq_2 (And.intro @Go.Abs.semAppendN.eq_1 @Go.Abs.semAppendN.eq_2)))) (And.intro (And.intro (And.intro @List.size_toArray.{0} (And.intro @Go.Abs.qField.eq_1 @Go.Abs.shiftV.eq_1)) (And.intro @Go.Abs.shiftV.eq_2 (And.intro @Go.Abs.shiftV.eq_3 @Go.Abs.shiftV.eq_4))) (And.intro (And.intro @Go.Abs.shiftV.eq_5 (And.intro @Go.Abs.qFieldV.eq_1 @Go.Abs.qFieldV.eq_2)) (And.intro @Go.Abs.qIndexAddr.eq_1 (And.intro @Go.Abs.qIndexAddr.eq_2 @Go.Abs.qIndexAddr.eq_3)))))) (And.intro (And.intro (And.intro (And.intro (And.intro (And.intro @Go.Abs.qIndexAddr.eq_4 @Go.Abs.qIndexAddr.eq_5) (And.intro @Go.Abs.qIndex.eq_1 (And.intro @Go.Abs.semView.eq_def @Go.Abs.semClear.eq_def))) (And.intro @Go.Abs.qIndex.eq_2 (And.intro @Go.Abs.qIndex.eq_3 @Go.Abs.semCut.eq_def))) (And.intro (And.intro @List.length_replicate.{0} (And.intro @Go.Abs.qSlice.eq_1 @Go.Abs.qSlice.eq_2)) (And.intro @Go.Abs.qSlice.eq_3 (And.intro @Go.Abs.qSlice.eq_4 @Go.Abs.loV.eq_1)))) (And.intro (And.intro (And.intro @Go.Abs.loV.eq_2 (And.intro @Go.Abs.loV.eq_3 @Go.Abs.hiV.eq_1)) (And.intro @Go.Abs.hiV.eq_2 (And.intro @Go.Abs.hiV.eq_3 @Option.map.eq_1.{0,0}))) (And.intro (And.intro @Option.map.eq_2.{0,0} (And.intro @Go.Abs.semMakeMap.eq_1 @Go.Abs.semMakeMap.eq_2)) (And.intro @Go.Abs.semLookup.eq_def (And.intro @Go.Abs.keyVal.eq_1 @Go.Abs.keyVal.eq_2))))) (And.intro (And.intro (And.intro (And.intro @Go.Abs.keyVal.eq_3 @Go.Abs.toCs.eq_1) (And.intro @Go.Abs.toCs.eq_2 (And.intro @Go.Abs.toC.eq_1 @Go.Abs.toC.eq_2))) (And.intro (And.intro @Option.map_some.{0,0} (And.intro @Go.Abs.semUpdate.eq_def @Go.Abs.qBuild.eq_1)) (And.intro @and_self (And.intro @Go.Abs.fillV.eq_1 @Go.Abs.fillV.eq_2)))) (And.intro (And.intro (And.intro @List.getElem?_toArray.{0} (And.intro @List.getElem?_cons_zero.{0} @List.getElem?_cons_succ.{0})) (And.intro @Go.Abs.semMake.eq_1 (And.intro @Go.Abs.semMake.eq_2 @Go.Abs.semBuildSlice.eq_1))) (And.intro (And.intro @Go.Abs.allCells.eq_1 (And.intro @Go.Abs.allCells.eq_2 @Nat.zero_mul)) (And.intro @Nat.zero_le (And.intro @beq_self_eq_true.{0} @Nat.one_mul))))))))
def zz := And.intro zn (And.intro @exists_and_left.{1} @exists_eq_left'.{1})
def zb := And.intro zz (And.intro (And.intro @List.range_zero (And.intro @List.not_mem_nil.{0} @exists_eq'.{1})) (And.intro (And.intro @exists_eq.{1} @List.range_one) (And.intro @List.mem_singleton.{0} @forall_eq.{1})))
def okd (n : Nat) : Option Nat → Bool
  | some d => Nat.blt d n
  | none => true
theorem okd_ok {n : Nat} {d : Option Nat} (h : okd n d = true) : dOK n d := by
 cases d with
 | none => trivial
 | some d => exact Nat.le_of_ble_eq_true h
section
variable {P : Program} {T : Tab} {n : Nat} {s : St} {σ : Hp} {K : St → Hp → Prop} {ds : List (Option Nat)} {o : Oper} {r : List Oper}
variable [Mode]
theorem S.g (hd : okd n o.dst = true) (hg : o.guard = none)
  (h : ∀ K' : St → Hp → Prop, (∀ s σ, semL P T n ds r K s σ → K' s σ) → semOp P T o K' s σ) : semL P T n ds (o :: r) K s σ := S.go (okd_ok hd) hg h
theorem S.y {j d : Nat} {b : Bool} (hd : okd n o.dst = true) (hg : o.guard = some (j, b)) (hj : ds[j]? = some (some d)) (hb : s.t d = .c (.bool b))
  (h : ∀ K' : St → Hp → Prop, (∀ s σ, semL P T n ds r K s σ → K' s σ) → semOp P T o K' s σ) : semL P T n ds (o :: r) K s σ := S.yes (okd_ok hd) hg hj hb h
theorem S.x {j d : Nat} {b : Bool} (hd : okd n o.dst = true) (hg : o.guard = some (j, b)) (hj : ds[j]? = some (some d)) (hb : s.t d = .c (.bool (!b)))
  (h : ∀ K' : St → Hp → Prop, (∀ s σ, semL P T n ds r K s σ → K' s σ) → K' (s.putO o.dst (.c undef)) σ) : semL P T n ds (o :: r) K s σ := S.no (okd_ok hd) hg hj hb h
theorem S.u {j d : Nat} {b : Bool} (hd : okd n o.dst = true) (hg : o.guard = some (j, b)) (hj : ds[j]? = some (some d)) (hb : s.t d = .c undef)
  (h : ∀ K' : St → Hp → Prop, (∀ s σ, semL P T n ds r K s σ → K' s σ) → K' (s.putO o.dst (.c undef)) σ) : semL P T n ds (o :: r) K s σ := S.un (okd_ok hd) hg hj hb h
variable {ops : List Oper} {i k : Nat} {l : List (Nat × Nat)}
theorem D.g (ho : ops[i]? = some o) (hs : stC T s k o.op) (hd : okd n o.dst = true) (hg : o.guard = none)
  (h : ∀ K' : St → Hp → Prop, (∀ s σ, semD P T n ops ds l K s σ → K' s σ) → semOp P T o K' s σ) : semD P T n ops ds ((i, k) :: l) K s σ := D.go ho hs (okd_ok hd) hg h
theorem D.y {j d : Nat} {b : Bool} (ho : ops[i]? = some o) (hs : stC T s k o.op) (hd : okd n o.dst = true) (hg : o.guard = some (j, b)) (hj : ds[j]? = some (some d)) (hb : s.t d = .c (.bool b))
  (h : ∀ K' : St → Hp → Prop, (∀ s σ, semD P T n ops ds l K s σ → K' s σ) → semOp P T o K' s σ) : semD P T n ops ds ((i, k) :: l) K s σ := D.yes ho hs (okd_ok hd) hg hj hb h
theorem D.x {j d : Nat} {b : Bool} (ho : ops[i]? = some o) (hk : k = 1 → isLoad o.op = true) (hd : okd n o.dst = true) (hg : o.guard = some (j, b)) (hj : ds[j]? = some (some d)) (hb : s.t d = .c (.bool (!b)))
  (h : ∀ K' : St → Hp → Prop, (∀ s σ, semD P T n ops ds l K s σ → K' s σ) → K' (s.putO o.dst (.c undef)) σ) : semD P T n ops ds ((i, k) :: l) K s σ := D.no ho hk (okd_ok hd) hg hj hb h
theorem D.u {j d : Nat} {b : Bool} (ho : ops[i]? = some o) (hk : k = 1 → isLoad o.op = true) (hd : okd n o.dst = true) (hg : o.guard = some (j, b)) (hj : ds[j]? = some (some d)) (hb : s.t d = .c undef)
  (h : ∀ K' : St → Hp → Prop, (∀ s σ, semD P T n ops ds l K s σ → K' s σ) → K' (s.putO o.dst (.c undef)) σ) : semD P T n ops ds ((i, k) :: l) K s σ := D.un ho hk (okd_ok hd) hg hj hb h
end
end Go.Abs
namespace Go.Abs
open Go
section
variable {P : Program} {T : Tab} {B : Base} {n : Nat} {cx cx' : Cx} {s : St} {σ σ' : Hp} {a : Act} {w w' : World} {K : St → Hp → Prop}
variable [Mode]
inductive Tr where
  | nil
  | st (i k : Nat) (t : Tr)
  | fork (i : Nat) (a : Tr) (j : Nat) (b : Tr)
def Tr.len : Tr → Nat
  | .nil => 0
  | .st _ _ t => t.len + 1
  | .fork _ a _ _ => a.len + 1
def one (P : Program) (T : Tab) (n : Nat) (ops : List Oper) (ds : List (Option Nat)) (i k : Nat) (N : St → Hp → Prop) (s : St) (σ : Hp) : Prop :=
  match ops[i]? with
  | none => False
  | some o => dOK n o.dst ∧ (match k, o.op with
       | 1, .load _ x => gate ds s o.guard (steady T.sd (ev s x) = true) True
       | 1, _ => False
       | _, _ => True) ∧ gate ds s o.guard (semOp P T o N s σ) (N (s.putO o.dst (.c undef)) σ)
def semT (P : Program) (T : Tab) (n : Nat) (ops : List Oper) (ds : List (Option Nat)) : Tr → (St → Hp → Prop) → St → Hp → Prop
  | .nil, K => K
  | .st i k r, K => one P T n ops ds i k (semT P T n ops ds r K)
  | .fork i a j b, K => fun s σ => one P T n ops ds i 2 (semT P T n ops ds a K) s σ ∧ one P T n ops ds j 2 (semT P T n ops ds b K) s σ
def schedT (P : Program) (ops : Array Oper) : Tr → Bool → Array Bool → Bool
  | .nil, _, listed => (Region.ready .any ops listed).isEmpty
  | .st i k r, early, listed =>
    (match k with
     | 0 => ((ops[i]?).map fun o => pureOp P o.op).getD false && (Region.ready .any ops listed).contains i && Region.free .any ops listed i
     | 1 => early && ((ops[i]?).map fun o => isLoad o.op).getD false && (Region.ready .any ops listed).contains i && Region.free .any ops listed i
     | _ => Region.ready .any ops listed == [i]) &&
    schedT P ops r early (listed.setIfInBounds i true)
  | .fork i a j b, early, listed => Region.ready .any ops listed == [i, j] && a.len == b.len && schedT P ops a early (listed.setIfInBounds i true) && schedT P ops b early (listed.setIfInBounds j true)
def forceL {α : Type} : List Bool → (List Bool → α) → α
  | [], k => k []
  | true :: l, k => forceL l fun m => k (true :: m)
  | false :: l, k => forceL l fun m => k (false :: m)
theorem forceL_eq {α : Type} : ∀ (l : List Bool) (k : List Bool → α), forceL l k = k l
 | [], _ => rfl
 | true :: l, k => by rw [forceL, forceL_eq l]
 | false :: l, k => by rw [forceL, forceL_eq l]
def setL : List Bool → Nat → List Bool
  | [], _ => []
  | _ :: l, 0 => true :: l
  | b :: l, i + 1 => b :: setL l i
theorem setL_eq : ∀ (l : List Bool) (i : Nat), setL l i = l.set i true
 | [], _ => rfl
 | _ :: _, 0 => rfl
 | b :: l, i + 1 => by rw [setL, setL_eq l i]; rfl
def zipR (q : Oper → Bool) : List Oper → List Bool → Nat → List Nat
  | o :: os, b :: ls, i => bif b then zipR q os ls (i + 1) else bif q o then i :: zipR q os ls (i + 1) else zipR q os ls (i + 1)
  | _, _, _ => []
theorem zipR_eq (q : Oper → Bool) : ∀ (os : List Oper) (ls : List Bool) (k : Nat), ls.length = os.length →
    zipR q os ls k = (List.range' k os.length).filter fun i => !ls.getD (i - k) true && ((os[i - k]?).map q).getD false
  | [], [], k, _ => rfl
  | o :: os, b :: ls, k, h => by
    have ih := zipR_eq q os ls (k + 1) (by simpa using h)
    have hf : (List.range' (k + 1) os.length).filter (fun i => !(b :: ls).getD (i - k) true && (((o :: os)[i - k]?).map q).getD false) = zipR q os ls (k + 1) := by
      rw [ih]
      refine List.filter_congr fun i hi => ?_
      obtain ⟨h1, _⟩ := List.mem_range'_1.1 hi
      rw [show i - k = (i - (k + 1)) + 1 by omega]
      simp
    rw [zipR, List.length_cons, List.range'_succ, List.filter_cons, hf]
    cases b <;> cases hq : q o <;> simp [hq]
def rdy (os : List Oper) (l : List Bool) : List Nat := zipR (fun o => o.after.toList.all fun e => !Region.binds .any e || l.getD e.on false) os l 0
theorem rdy_eq {os : List Oper} {l : List Bool} (h : l.length = os.length) : rdy os l = Region.ready .any ⟨os⟩ ⟨l⟩ := by
 unfold rdy Region.ready
 rw [zipR_eq _ _ _ _ h, List.range_eq_range']
 simp [Array.getD_eq_getD_getElem?, List.getD]
def zipA (q : Oper → Bool) (i : Nat) : List Oper → List Bool → Nat → Bool
  | o :: os, b :: ls, j => bif b then zipA q i os ls (j + 1) else (j == i || q o) && zipA q i os ls (j + 1)
  | _, _, _ => true
theorem zipA_eq (q : Oper → Bool) (i : Nat) : ∀ (os : List Oper) (ls : List Bool) (k : Nat), ls.length = os.length →
    zipA q i os ls k = (List.range' k os.length).all fun j => j == i || ls.getD (j - k) true || match os[j - k]? with | some o => q o | none => true
  | [], [], k, _ => rfl
  | o :: os, b :: ls, k, h => by
    have ih := zipA_eq q i os ls (k + 1) (by simpa using h)
    have hf : ((List.range' (k + 1) os.length).all fun j => j == i || (b :: ls).getD (j - k) true || match (o :: os)[j - k]? with | some o => q o | none => true) = zipA q i os ls (k + 1) := by
      rw [ih, Bool.eq_iff_iff, List.all_eq_true, List.all_eq_true]
      refine forall_congr' fun j => ⟨fun h hj => ?_, fun h hj => ?_⟩
      all_goals
        have h2 := h hj
        obtain ⟨h1, _⟩ := List.mem_range'_1.1 hj
        rw [show j - k = (j - (k + 1)) + 1 by omega] at *
        simpa using h2
    rw [zipA, List.length_cons, List.range'_succ, List.all_cons, hf]
    cases b <;> simp
def fre (os : List Oper) (l : List Bool) (i : Nat) : Bool :=
  match os[i]? with
  | none => false
  | some oi => zipA (fun oj => oj.after.toList.any (fun e => Region.binds .any e && e.on == i) || oi.apart ⟨os⟩ oj) i os l 0
theorem fre_eq {os : List Oper} {l : List Bool} (h : l.length = os.length) (i : Nat) : fre os l i = Region.free .any ⟨os⟩ ⟨l⟩ i := by
  unfold fre Region.free
  simp only [List.getElem?_toArray]
  cases os[i]? with
  | none => rfl
  | some oi =>
    simp only []
    rw [zipA_eq _ _ _ _ _ h, List.range_eq_range']
    simp [Array.getD_eq_getD_getElem?, List.getD]
    rfl
def schedF (P : Program) (ops : List Oper) : Tr → Bool → List Bool → Bool
  | .nil, _, l => (rdy ops l).isEmpty
  | .st i k r, early, l =>
    (match k with
     | 0 => ((ops[i]?).map fun o => pureOp P o.op).getD false && (rdy ops l).contains i && fre ops l i
     | 1 => early && ((ops[i]?).map fun o => isLoad o.op).getD false && (rdy ops l).contains i && fre ops l i
     | _ => rdy ops l == [i]) &&
    forceL (setL l i) fun m => schedF P ops r early m
  | .fork i a j b, early, l => rdy ops l == [i, j] && a.len == b.len && (forceL (setL l i) fun m => schedF P ops a early m) && (forceL (setL l j) fun m => schedF P ops b early m)
theorem setL_len (l : List Bool) (i : Nat) : (setL l i).length = l.length := by rw [setL_eq, List.length_set]
theorem schedF_eq (P : Program) (ops : List Oper) : ∀ (t : Tr) (early : Bool) (l : List Bool), l.length = ops.length → schedF P ops t early l = schedT P ⟨ops⟩ t early ⟨l⟩
  | .nil, _, _, h => by simp only [schedF, schedT, rdy_eq h]
  | .st i k r, early, l, h => by
    simp only [schedF, schedT, forceL_eq, schedF_eq P ops r early (setL l i) ((setL_len l i).trans h), rdy_eq h, fre_eq h, List.getElem?_toArray, List.setIfInBounds_toArray]
    rw [setL_eq]
  | .fork i a j b, early, l, h => by
    simp only [schedF, schedT, forceL_eq, schedF_eq P ops a early (setL l i) ((setL_len l i).trans h), schedF_eq P ops b early (setL l j) ((setL_len l j).trans h), rdy_eq h, List.setIfInBounds_toArray]
    rw [setL_eq, setL_eq]
theorem semT_sound (hT : T.ok P) {ops : Array Oper} (hs : Region.noSelect ops = true) {Q : Act → World → Prop} :
    ∀ (sched : Tr) (early : Bool) (listed : Array Bool) {B : Base} (_hsd : B.sd = T.sd) (_hQ : ∀ a w, KC B n K a w → Q a w) {cx : Cx} {s : St} {σ : Hp} {a : Act} {w : World}, schedT P ops sched early listed = true → SR B n cx s σ a w →
    (early = true → (∀ g, cx.I g → B.still g) ∧ (∀ d cells, T.sd d = true → s.l d = some cells → B.still (cx.L d))) →
    semT P T n ops.toList (ops.toList.map (·.dst)) sched K s σ → wpAnyH P .any ops (onlyN Q) (stillW B) sched.len listed a w
  | .nil, early, listed, B, hsd, hQ, cx, s, σ, a, w, hB, h, he, hk => by
    simp only [schedT, List.isEmpty_iff] at hB
    exact wpAnyH_done hB (hQ a w ⟨cx, s, σ, h, hk⟩) 0
  | .st i k r, early, listed, B, hsd, hQ, cx, s, σ, a, w, hB, h, he, hk => by
    simp only [schedT, Bool.and_eq_true] at hB
    obtain ⟨hB1, hB2⟩ := hB
    simp only [semT, one] at hk
    cases hi : ops.toList[i]? with
    | none => simp [hi] at hk
    | some o =>
      simp only [hi] at hk
      obtain ⟨hd, hst, hk⟩ := hk
      have hi' : ops[i]? = some o := by simpa using hi
      have take : ∀ {v : V} {x : Value}, (Region.wanted o (yielded ops a.tmps) = true ∧ (∀ w', stillW B w' → (execOp a.eval o).run P w' = .ok (.value x) w') ∨ Region.wanted o (yielded ops a.tmps) = false ∧ x = undef) → TR w cx v x →
          semT P T n ops.toList (ops.toList.map (·.dst)) r K (s.putO o.dst v) σ → (Region.ready .any ops listed).contains i = true → Region.free .any ops listed i = true →
          wpAnyH P .any ops (onlyN Q) (stillW B) (Tr.st i k r).len listed a w := fun {v x} hy hv hkr hr hf => by
        have h' := h.putO (dOK_spec hd) hv
        refine wpAnyH_take hi' hs hf hr (fun _ _ _ hq => hq.elim) (v := x) hy h.stillW ?_
        refine semT_sound hT hs r early _ hsd hQ hB2 h' (fun e1 => ?_) hkr
        obtain ⟨h1, h2⟩ := he e1
        refine ⟨h1, fun d cells hsd' hd' => h2 d cells hsd' ?_⟩
        cases hdst : o.dst with
        | none => rw [hdst] at hd'; exact hd'
        | some e => rw [hdst] at hd'; exact hd'
      rcases k with _ | _ | k
      · simp only [hi', Option.map_some, Option.getD_some, Bool.and_eq_true] at hB1
        obtain ⟨⟨hp, hr⟩, hf⟩ := hB1
        rcases gate_wanted (ops := ops) h hk with ⟨hw, hk⟩ | ⟨hw, hk⟩
        · obtain ⟨v, hv, hy⟩ := sem_pure hT hp hk
          obtain ⟨x, hx, ht⟩ := hy h
          exact take (.inl ⟨hw, fun w' _ => hx w'⟩) ht hv hr hf
        · exact take (.inr ⟨hw, rfl⟩) (.v (.c undef)) hk hr hf
      · simp only [hi', Option.map_some, Option.getD_some, Bool.and_eq_true] at hB1
        obtain ⟨⟨⟨hea, hp⟩, hr⟩, hf⟩ := hB1
        obtain ⟨h1, h2⟩ := he hea
        cases ho : o.op <;> simp only [ho, isLoad] at hp hst <;> try (cases hp; done)
        rename_i t x
        have hk2 := gate_and hst hk
        rcases gate_wanted (ops := ops) h hk2 with ⟨hw, hst, hk⟩ | ⟨hw, _, hk⟩
        · unfold semOp at hk
          simp only [ho] at hk
          obtain ⟨c1, c2, c3, hk⟩ := hk
          obtain ⟨v, hv, hy⟩ := qLoad_sound (P := P) (s := s) (σ := σ) c1 c2 c3 hk
          obtain ⟨y, b, off, hp', hyr, ht, hlp, hip⟩ := hy cx w (a.eval x) h.heap h.box (h.tr x)
          have hb : B.still b := by
            cases hx : ev s x with
            | lp d off' =>
              rw [hlp d off' hx]
              have hsd' : T.sd d = true := by simpa [steady, hx] using hst
              have hl : ∃ cells, s.l d = some cells := by
                rw [hx] at hk
                unfold qLoad at hk
                cases hld : s.l d with
                | none => simp [hld] at hk
                | some cells => exact ⟨cells, rfl⟩
              obtain ⟨cells, hl⟩ := hl
              exact h2 d cells hsd' hl
            | ip es i' off' => exact h1 b (hip es i' off' hx)
            | _ => simp [steady, hx] at hst
          refine take (.inl ⟨hw, fun w' hw' => ?_⟩) ht hv hr hf
          have := hyr w' ((hw' b hb).trans (h.stab b hb).symm)
          simp [execOp, ho, this]
        · exact take (.inr ⟨hw, rfl⟩) (.v (.c undef)) hk hr hf
      · have hB1 : Region.ready .any ops listed = [i] := by simpa using hB1
        refine wpAnyH_all (rs := [i]) hB1 (by simp) (fun j hj => ?_)
        have hj : j = i := by simpa using hj
        subst hj
        have next : ∀ a' w', KC B n (semT P T n ops.toList (ops.toList.map (·.dst)) r K) a' w' → stillW B w' ∧ wpAnyH P .any ops (onlyN Q) (stillW B) r.len (listed.setIfInBounds j true) a' w' := fun a' w' ⟨cx', s', σ', h', hk'⟩ =>
          ⟨h'.stillW, wpAnyH_mono (S' := stillW (B.re cx' s'.l T.sd w')) (fun w'' hw g hg => (hw g (.inl hg)).trans (h'.stab g hg)) _ _ _ _
            (semT_sound hT hs r early _ rfl (fun a'' w'' ⟨cx2, s2, σ2, h2, hk2⟩ => hQ a'' w'' ⟨cx2, s2, σ2, h2.ofRe hsd (fun g hg => h'.stab g hg), hk2⟩) hB2 (h'.re hsd)
              (fun _ => ⟨fun g hg => .inr (.inl hg), fun d cells hd hl => .inr (.inr ⟨d, cells, hd, hl, rfl⟩)⟩) hk')⟩
        unfold wpOp
        simp only [hi']
        rcases gate_wanted (ops := ops) h hk with ⟨hw, hk⟩ | ⟨hw, hk⟩
        · simp only [hw, if_true]
          exact .inl (Oper.wp_mono next (sem_sound hT hsd hd h hk))
        · simp only [hw, Bool.false_eq_true, if_false]
          exact next _ _ ⟨cx, _, σ, h.putO (dOK_spec hd) (.v (.c undef)), hk⟩
  | .fork i ra j rb, early, listed, B, hsd, hQ, cx, s, σ, a, w, hB, h, he, hk => by
    simp only [schedT, Bool.and_eq_true] at hB
    obtain ⟨⟨⟨hB1, hlen⟩, hBa⟩, hBb⟩ := hB
    have hlen : ra.len = rb.len := by simpa using hlen
    have hB1 : Region.ready .any ops listed = [i, j] := by simpa using hB1
    simp only [semT] at hk
    have go : ∀ (q : Nat) (r : Tr), r.len = ra.len → schedT P ops r early (listed.setIfInBounds q true) = true → (∀ {B : Base} (_hsd : B.sd = T.sd) (_hQ : ∀ a w, KC B n K a w → Q a w) {cx : Cx} {s : St} {σ : Hp} {a : Act} {w : World}, SR B n cx s σ a w →
        (early = true → (∀ g, cx.I g → B.still g) ∧ (∀ d cells, T.sd d = true → s.l d = some cells → B.still (cx.L d))) →
        semT P T n ops.toList (ops.toList.map (·.dst)) r K s σ → wpAnyH P .any ops (onlyN Q) (stillW B) r.len (listed.setIfInBounds q true) a w) →
        one P T n ops.toList (ops.toList.map (·.dst)) q 2 (semT P T n ops.toList (ops.toList.map (·.dst)) r K) s σ → wpOp P ops (onlyN Q) q (fun a' w' => stillW B w' ∧ wpAnyH P .any ops (onlyN Q) (stillW B) ra.len (listed.setIfInBounds q true) a' w') a w := fun q r hl hBr ih hk => by
      simp only [one] at hk
      cases hi : ops.toList[q]? with
      | none => simp [hi] at hk
      | some o =>
        simp only [hi] at hk
        obtain ⟨hd, hst, hk⟩ := hk
        have hi' : ops[q]? = some o := by simpa using hi
        have next : ∀ a' w', KC B n (semT P T n ops.toList (ops.toList.map (·.dst)) r K) a' w' → stillW B w' ∧ wpAnyH P .any ops (onlyN Q) (stillW B) ra.len (listed.setIfInBounds q true) a' w' := fun a' w' ⟨cx', s', σ', h', hk'⟩ =>
          ⟨h'.stillW, wpAnyH_mono (S' := stillW (B.re cx' s'.l T.sd w')) (fun w'' hw g hg => (hw g (.inl hg)).trans (h'.stab g hg)) _ _ _ _
            (hl ▸ ih rfl (fun a'' w'' ⟨cx2, s2, σ2, h2, hk2⟩ => hQ a'' w'' ⟨cx2, s2, σ2, h2.ofRe hsd (fun g hg => h'.stab g hg), hk2⟩) (h'.re hsd)
              (fun _ => ⟨fun g hg => .inr (.inl hg), fun d cells hd hl => .inr (.inr ⟨d, cells, hd, hl, rfl⟩)⟩) hk')⟩
        unfold wpOp
        simp only [hi']
        rcases gate_wanted (ops := ops) h hk with ⟨hw, hk⟩ | ⟨hw, hk⟩
        · simp only [hw, if_true]
          exact .inl (Oper.wp_mono next (sem_sound hT hsd hd h hk))
        · simp only [hw, Bool.false_eq_true, if_false]
          exact next _ _ ⟨cx, _, σ, h.putO (dOK_spec hd) (.v (.c undef)), hk⟩
    refine wpAnyH_all (rs := [i, j]) hB1 (by simp) (fun q hq => ?_)
    rcases List.mem_cons.1 hq with rfl | hq
    · exact go q ra rfl hBa (fun {B} hsd hQ {cx s σ a w} h he hk => semT_sound hT hs ra early _ hsd hQ hBa h he hk) hk.1
    · have hq : q = j := by simpa using hq
      subst hq
      exact go q rb hlen.symm hBb (fun {B} hsd hQ {cx s σ a w} h he hk => semT_sound hT hs rb early _ hsd hQ hBb h he hk) hk.2
theorem AW.drawT {Q : Exit → St → Hp → Prop} (hT : T.ok P) (hm : P.follows .mixedOrders = true) {id : Nat} {l : List Oper} (t : Tr) (hlen : t.len = l.length) (hs : Region.noSelect l.toArray = true)
  (hB : schedF P l t true (List.replicate l.length false) = true) (h : semT P T n l (l.map (·.dst)) t (fun s σ => Q .normal s σ) s σ) : AW P n (.region id l.toArray true) Q s σ :=
 fun B cx a w h1 _ h3 => by
  have hB : schedT P l.toArray t true (Array.replicate l.length false) = true := by
   rw [schedF_eq _ _ _ _ _ (by simp)] at hB
   exact hB
  have h4 := h3.drew
  have h5 := h4.toAt T.sd
  refine wp_mono (Q := onlyN (fun a w => QC B n Q .normal a w)) (wp_region_held (S := stillW (B.at cx s.l T.sd w.drew)) hm ?_) (fun e a w hq => by cases e <;> first | exact hq | exact hq.elim)
  have := semT_sound hT hs (Q := fun a w => QC B n Q .normal a w) (K := fun s σ => Q .normal s σ)
   t true (Array.replicate l.length false) (B := B.at cx s.l T.sd w.drew) rfl (fun a w ⟨cx', s', σ', h6, h7⟩ => ⟨cx', s', σ', h6.ofAt h1, h7⟩) hB h5 (fun _ => ⟨fun g hg => .inl hg, fun d cells hd hl => .inr ⟨d, cells, hd, hl, rfl⟩⟩) (by simpa using h)
  rw [hlen] at this
  simpa using this
def Tr.of : List (Nat × Nat) → Tr
  | [] => .nil
  | (i, 3) :: (j, _) :: r => .fork i (.st j 2 (Tr.of r)) j (.st i 2 (Tr.of r))
  | (i, k) :: r => .st i k (Tr.of r)
section
variable {ops : List Oper} {i k d j : Nat} {r : Tr} {o : Oper} {ds : List (Option Nat)} {b : Bool}
theorem T.g (ho : ops[i]? = some o) (hs : stC T s k o.op) (hd : okd n o.dst = true) (hg : o.guard = none)
  (h : ∀ K' : St → Hp → Prop, (∀ s σ, semT P T n ops ds r K s σ → K' s σ) → semOp P T o K' s σ) : semT P T n ops ds (.st i k r) K s σ := by
 have := D.g (P := P) (T := T) (n := n) (s := s) (σ := σ) (K := semT P T n ops ds r K) (ds := ds) (ops := ops) (i := i) (k := k) (l := []) ho hs hd hg h
 exact this
theorem T.y (ho : ops[i]? = some o) (hs : stC T s k o.op) (hd : okd n o.dst = true) (hg : o.guard = some (j, b)) (hj : ds[j]? = some (some d)) (hb : s.t d = .c (.bool b))
  (h : ∀ K' : St → Hp → Prop, (∀ s σ, semT P T n ops ds r K s σ → K' s σ) → semOp P T o K' s σ) : semT P T n ops ds (.st i k r) K s σ := by
 have := D.y (P := P) (T := T) (n := n) (s := s) (σ := σ) (K := semT P T n ops ds r K) (ds := ds) (ops := ops) (i := i) (k := k) (l := []) ho hs hd hg hj hb h
 exact this
theorem T.x (ho : ops[i]? = some o) (hk : k = 1 → isLoad o.op = true) (hd : okd n o.dst = true) (hg : o.guard = some (j, b)) (hj : ds[j]? = some (some d)) (hb : s.t d = .c (.bool (!b)))
  (h : ∀ K' : St → Hp → Prop, (∀ s σ, semT P T n ops ds r K s σ → K' s σ) → K' (s.putO o.dst (.c undef)) σ) : semT P T n ops ds (.st i k r) K s σ := by
 have := D.x (P := P) (T := T) (n := n) (s := s) (σ := σ) (K := semT P T n ops ds r K) (ds := ds) (ops := ops) (i := i) (k := k) (l := []) ho hk hd hg hj hb h
 exact this
theorem T.u (ho : ops[i]? = some o) (hk : k = 1 → isLoad o.op = true) (hd : okd n o.dst = true) (hg : o.guard = some (j, b)) (hj : ds[j]? = some (some d)) (hb : s.t d = .c undef)
  (h : ∀ K' : St → Hp → Prop, (∀ s σ, semT P T n ops ds r K s σ → K' s σ) → K' (s.putO o.dst (.c undef)) σ) : semT P T n ops ds (.st i k r) K s σ := by
 have := D.u (P := P) (T := T) (n := n) (s := s) (σ := σ) (K := semT P T n ops ds r K) (ds := ds) (ops := ops) (i := i) (k := k) (l := []) ho hk hd hg hj hb h
 exact this
theorem T.nil (h : K s σ) : semT P T n ops ds .nil K s σ := h
theorem T.cut {t : Tr} (J : St → Hp → Prop) (h : J s σ) (k : ∀ s σ, J s σ → semT P T n ops ds t K s σ) : semT P T n ops ds t K s σ := k s σ h
theorem D.cut {t : List (Nat × Nat)} (J : St → Hp → Prop) (h : J s σ) (k : ∀ s σ, J s σ → semD P T n ops ds t K s σ) : semD P T n ops ds t K s σ := k s σ h
theorem S.cut {r : List Oper} (J : St → Hp → Prop) (h : J s σ) (k : ∀ s σ, J s σ → semL P T n ds r K s σ) : semL P T n ds r K s σ := k s σ h
theorem AW.cut {c : Code} {Q : Exit → St → Hp → Prop} (J : St → Hp → Prop) (h : J s σ) (k : ∀ s σ, J s σ → AW P n c Q s σ) : AW P n c Q s σ := k s σ h
theorem T.fork {a c : Tr} (h1 : semT P T n ops ds (.st i 2 a) K s σ) (h2 : semT P T n ops ds (.st j 2 c) K s σ) : semT P T n ops ds (.fork i a j c) K s σ := ⟨h1, h2⟩
end
end
end Go.Abs
namespace Go.Abs
open Go
section
variable {P : Program} {T : Tab} {B : Base} {n : Nat} {cx cx' : Cx} {s : St} {σ σ' : Hp} {a : Act} {w w' : World} {K : St → Hp → Prop}
variable [Mode]
inductive Tf where
  | nil
  | st (i k : Nat) (t : Tf)
  | fork (i : Nat) (a : Tf) (j : Nat) (b : Tf)
  | fork3 (i : Nat) (a : Tf) (j : Nat) (b : Tf) (k : Nat) (c : Tf)
def Tf.len : Tf → Nat
  | .nil => 0
  | .st _ _ t => t.len + 1
  | .fork _ a _ _ => a.len + 1
  | .fork3 _ a _ _ _ _ => a.len + 1
def semF (P : Program) (T : Tab) (n : Nat) (ops : List Oper) (ds : List (Option Nat)) : Tf → (St → Hp → Prop) → St → Hp → Prop
  | .nil, K => K
  | .st i k r, K => one P T n ops ds i k (semF P T n ops ds r K)
  | .fork i a j b, K => fun s σ => one P T n ops ds i 2 (semF P T n ops ds a K) s σ ∧ one P T n ops ds j 2 (semF P T n ops ds b K) s σ
  | .fork3 i a j b k c, K => fun s σ => one P T n ops ds i 2 (semF P T n ops ds a K) s σ ∧ one P T n ops ds j 2 (semF P T n ops ds b K) s σ ∧ one P T n ops ds k 2 (semF P T n ops ds c K) s σ
def schedG (P : Program) (ops : Array Oper) : Tf → Bool → Array Bool → Bool
  | .nil, _, listed => (Region.ready .any ops listed).isEmpty
  | .st i k r, early, listed =>
    (match k with
     | 0 => ((ops[i]?).map fun o => pureOp P o.op).getD false && (Region.ready .any ops listed).contains i && Region.free .any ops listed i
     | 1 => early && ((ops[i]?).map fun o => isLoad o.op).getD false && (Region.ready .any ops listed).contains i && Region.free .any ops listed i
     | _ => Region.ready .any ops listed == [i]) &&
    schedG P ops r early (listed.setIfInBounds i true)
  | .fork i a j b, early, listed => Region.ready .any ops listed == [i, j] && a.len == b.len && schedG P ops a early (listed.setIfInBounds i true) && schedG P ops b early (listed.setIfInBounds j true)
  | .fork3 i a j b k c, early, listed => Region.ready .any ops listed == [i, j, k] && (a.len == b.len && a.len == c.len) && schedG P ops a early (listed.setIfInBounds i true) && schedG P ops b early (listed.setIfInBounds j true) && schedG P ops c early (listed.setIfInBounds k true)
def schedH (P : Program) (ops : List Oper) : Tf → Bool → List Bool → Bool
  | .nil, _, l => (rdy ops l).isEmpty
  | .st i k r, early, l =>
    (match k with
     | 0 => ((ops[i]?).map fun o => pureOp P o.op).getD false && (rdy ops l).contains i && fre ops l i
     | 1 => early && ((ops[i]?).map fun o => isLoad o.op).getD false && (rdy ops l).contains i && fre ops l i
     | _ => rdy ops l == [i]) &&
    forceL (setL l i) fun m => schedH P ops r early m
  | .fork i a j b, early, l => rdy ops l == [i, j] && a.len == b.len && (forceL (setL l i) fun m => schedH P ops a early m) && (forceL (setL l j) fun m => schedH P ops b early m)
  | .fork3 i a j b k c, early, l => rdy ops l == [i, j, k] && (a.len == b.len && a.len == c.len) && (forceL (setL l i) fun m => schedH P ops a early m) && (forceL (setL l j) fun m => schedH P ops b early m) && (forceL (setL l k) fun m => schedH P ops c early m)
theorem schedH_eq (P : Program) (ops : List Oper) : ∀ (t : Tf) (early : Bool) (l : List Bool), l.length = ops.length → schedH P ops t early l = schedG P ⟨ops⟩ t early ⟨l⟩
  | .nil, _, _, h => by simp only [schedH, schedG, rdy_eq h]
  | .st i k r, early, l, h => by
    simp only [schedH, schedG, forceL_eq, schedH_eq P ops r early (setL l i) ((setL_len l i).trans h), rdy_eq h, fre_eq h, List.getElem?_toArray, List.setIfInBounds_toArray]
    rw [setL_eq]
  | .fork i a j b, early, l, h => by
    simp only [schedH, schedG, forceL_eq, schedH_eq P ops a early (setL l i) ((setL_len l i).trans h), schedH_eq P ops b early (setL l j) ((setL_len l j).trans h), rdy_eq h, List.setIfInBounds_toArray]
    rw [setL_eq, setL_eq]
  | .fork3 i a j b k c, early, l, h => by
    simp only [schedH, schedG, forceL_eq, schedH_eq P ops a early (setL l i) ((setL_len l i).trans h), schedH_eq P ops b early (setL l j) ((setL_len l j).trans h), schedH_eq P ops c early (setL l k) ((setL_len l k).trans h), rdy_eq h, List.setIfInBounds_toArray]
    rw [setL_eq, setL_eq, setL_eq]
theorem semF_sound (hT : T.ok P) {ops : Array Oper} (hs : Region.noSelect ops = true) {Q : Act → World → Prop} :
    ∀ (sched : Tf) (early : Bool) (listed : Array Bool) {B : Base} (_hsd : B.sd = T.sd) (_hQ : ∀ a w, KC B n K a w → Q a w) {cx : Cx} {s : St} {σ : Hp} {a : Act} {w : World}, schedG P ops sched early listed = true → SR B n cx s σ a w →
    (early = true → (∀ g, cx.I g → B.still g) ∧ (∀ d cells, T.sd d = true → s.l d = some cells → B.still (cx.L d))) →
    semF P T n ops.toList (ops.toList.map (·.dst)) sched K s σ → wpAnyH P .any ops (onlyN Q) (stillW B) sched.len listed a w
  | .nil, early, listed, B, hsd, hQ, cx, s, σ, a, w, hB, h, he, hk => by
    simp only [schedG, List.isEmpty_iff] at hB
    exact wpAnyH_done hB (hQ a w ⟨cx, s, σ, h, hk⟩) 0
  | .st i k r, early, listed, B, hsd, hQ, cx, s, σ, a, w, hB, h, he, hk => by
    simp only [schedG, Bool.and_eq_true] at hB
    obtain ⟨hB1, hB2⟩ := hB
    simp only [semF, one] at hk
    cases hi : ops.toList[i]? with
    | none => simp [hi] at hk
    | some o =>
      simp only [hi] at hk
      obtain ⟨hd, hst, hk⟩ := hk
      have hi' : ops[i]? = some o := by simpa using hi
      have take : ∀ {v : V} {x : Value}, (Region.wanted o (yielded ops a.tmps) = true ∧ (∀ w', stillW B w' → (execOp a.eval o).run P w' = .ok (.value x) w') ∨ Region.wanted o (yielded ops a.tmps) = false ∧ x = undef) → TR w cx v x →
          semF P T n ops.toList (ops.toList.map (·.dst)) r K (s.putO o.dst v) σ → (Region.ready .any ops listed).contains i = true → Region.free .any ops listed i = true →
          wpAnyH P .any ops (onlyN Q) (stillW B) (Tf.st i k r).len listed a w := fun {v x} hy hv hkr hr hf => by
        have h' := h.putO (dOK_spec hd) hv
        refine wpAnyH_take hi' hs hf hr (fun _ _ _ hq => hq.elim) (v := x) hy h.stillW ?_
        refine semF_sound hT hs r early _ hsd hQ hB2 h' (fun e1 => ?_) hkr
        obtain ⟨h1, h2⟩ := he e1
        refine ⟨h1, fun d cells hsd' hd' => h2 d cells hsd' ?_⟩
        cases hdst : o.dst with
        | none => rw [hdst] at hd'; exact hd'
        | some e => rw [hdst] at hd'; exact hd'
      rcases k with _ | _ | k
      · simp only [hi', Option.map_some, Option.getD_some, Bool.and_eq_true] at hB1
        obtain ⟨⟨hp, hr⟩, hf⟩ := hB1
        rcases gate_wanted (ops := ops) h hk with ⟨hw, hk⟩ | ⟨hw, hk⟩
        · obtain ⟨v, hv, hy⟩ := sem_pure hT hp hk
          obtain ⟨x, hx, ht⟩ := hy h
          exact take (.inl ⟨hw, fun w' _ => hx w'⟩) ht hv hr hf
        · exact take (.inr ⟨hw, rfl⟩) (.v (.c undef)) hk hr hf
      · simp only [hi', Option.map_some, Option.getD_some, Bool.and_eq_true] at hB1
        obtain ⟨⟨⟨hea, hp⟩, hr⟩, hf⟩ := hB1
        obtain ⟨h1, h2⟩ := he hea
        cases ho : o.op <;> simp only [ho, isLoad] at hp hst <;> try (cases hp; done)
        rename_i t x
        have hk2 := gate_and hst hk
        rcases gate_wanted (ops := ops) h hk2 with ⟨hw, hst, hk⟩ | ⟨hw, _, hk⟩
        · unfold semOp at hk
          simp only [ho] at hk
          obtain ⟨c1, c2, c3, hk⟩ := hk
          obtain ⟨v, hv, hy⟩ := qLoad_sound (P := P) (s := s) (σ := σ) c1 c2 c3 hk
          obtain ⟨y, b, off, hp', hyr, ht, hlp, hip⟩ := hy cx w (a.eval x) h.heap h.box (h.tr x)
          have hb : B.still b := by
            cases hx : ev s x with
            | lp d off' =>
              rw [hlp d off' hx]
              have hsd' : T.sd d = true := by simpa [steady, hx] using hst
              have hl : ∃ cells, s.l d = some cells := by
                rw [hx] at hk
                unfold qLoad at hk
                cases hld : s.l d with
                | none => simp [hld] at hk
                | some cells => exact ⟨cells, rfl⟩
              obtain ⟨cells, hl⟩ := hl
              exact h2 d cells hsd' hl
            | ip es i' off' => exact h1 b (hip es i' off' hx)
            | _ => simp [steady, hx] at hst
          refine take (.inl ⟨hw, fun w' hw' => ?_⟩) ht hv hr hf
          have := hyr w' ((hw' b hb).trans (h.stab b hb).symm)
          simp [execOp, ho, this]
        · exact take (.inr ⟨hw, rfl⟩) (.v (.c undef)) hk hr hf
      · have hB1 : Region.ready .any ops listed = [i] := by simpa using hB1
        refine wpAnyH_all (rs := [i]) hB1 (by simp) (fun j hj => ?_)
        have hj : j = i := by simpa using hj
        subst hj
        have next : ∀ a' w', KC B n (semF P T n ops.toList (ops.toList.map (·.dst)) r K) a' w' → stillW B w' ∧ wpAnyH P .any ops (onlyN Q) (stillW B) r.len (listed.setIfInBounds j true) a' w' := fun a' w' ⟨cx', s', σ', h', hk'⟩ =>
          ⟨h'.stillW, wpAnyH_mono (S' := stillW (B.re cx' s'.l T.sd w')) (fun w'' hw g hg => (hw g (.inl hg)).trans (h'.stab g hg)) _ _ _ _
            (semF_sound hT hs r early _ rfl (fun a'' w'' ⟨cx2, s2, σ2, h2, hk2⟩ => hQ a'' w'' ⟨cx2, s2, σ2, h2.ofRe hsd (fun g hg => h'.stab g hg), hk2⟩) hB2 (h'.re hsd)
              (fun _ => ⟨fun g hg => .inr (.inl hg), fun d cells hd hl => .inr (.inr ⟨d, cells, hd, hl, rfl⟩)⟩) hk')⟩
        unfold wpOp
        simp only [hi']
        rcases gate_wanted (ops := ops) h hk with ⟨hw, hk⟩ | ⟨hw, hk⟩
        · simp only [hw, if_true]
          exact .inl (Oper.wp_mono next (sem_sound hT hsd hd h hk))
        · simp only [hw, Bool.false_eq_true, if_false]
          exact next _ _ ⟨cx, _, σ, h.putO (dOK_spec hd) (.v (.c undef)), hk⟩
  | .fork i ra j rb, early, listed, B, hsd, hQ, cx, s, σ, a, w, hB, h, he, hk => by
    simp only [schedG, Bool.and_eq_true] at hB
    obtain ⟨⟨⟨hB1, hlen⟩, hBa⟩, hBb⟩ := hB
    have hlen : ra.len = rb.len := by simpa using hlen
    have hB1 : Region.ready .any ops listed = [i, j] := by simpa using hB1
    simp only [semF] at hk
    have go : ∀ (q : Nat) (r : Tf), r.len = ra.len → schedG P ops r early (listed.setIfInBounds q true) = true → (∀ {B : Base} (_hsd : B.sd = T.sd) (_hQ : ∀ a w, KC B n K a w → Q a w) {cx : Cx} {s : St} {σ : Hp} {a : Act} {w : World}, SR B n cx s σ a w →
        (early = true → (∀ g, cx.I g → B.still g) ∧ (∀ d cells, T.sd d = true → s.l d = some cells → B.still (cx.L d))) →
        semF P T n ops.toList (ops.toList.map (·.dst)) r K s σ → wpAnyH P .any ops (onlyN Q) (stillW B) r.len (listed.setIfInBounds q true) a w) →
        one P T n ops.toList (ops.toList.map (·.dst)) q 2 (semF P T n ops.toList (ops.toList.map (·.dst)) r K) s σ → wpOp P ops (onlyN Q) q (fun a' w' => stillW B w' ∧ wpAnyH P .any ops (onlyN Q) (stillW B) ra.len (listed.setIfInBounds q true) a' w') a w := fun q r hl hBr ih hk => by
      simp only [one] at hk
      cases hi : ops.toList[q]? with
      | none => simp [hi] at hk
      | some o =>
        simp only [hi] at hk
        obtain ⟨hd, hst, hk⟩ := hk
        have hi' : ops[q]? = some o := by simpa using hi
        have next : ∀ a' w', KC B n (semF P T n ops.toList (ops.toList.map (·.dst)) r K) a' w' → stillW B w' ∧ wpAnyH P .any ops (onlyN Q) (stillW B) ra.len (listed.setIfInBounds q true) a' w' := fun a' w' ⟨cx', s', σ', h', hk'⟩ =>
          ⟨h'.stillW, wpAnyH_mono (S' := stillW (B.re cx' s'.l T.sd w')) (fun w'' hw g hg => (hw g (.inl hg)).trans (h'.stab g hg)) _ _ _ _
            (hl ▸ ih rfl (fun a'' w'' ⟨cx2, s2, σ2, h2, hk2⟩ => hQ a'' w'' ⟨cx2, s2, σ2, h2.ofRe hsd (fun g hg => h'.stab g hg), hk2⟩) (h'.re hsd)
              (fun _ => ⟨fun g hg => .inr (.inl hg), fun d cells hd hl => .inr (.inr ⟨d, cells, hd, hl, rfl⟩)⟩) hk')⟩
        unfold wpOp
        simp only [hi']
        rcases gate_wanted (ops := ops) h hk with ⟨hw, hk⟩ | ⟨hw, hk⟩
        · simp only [hw, if_true]
          exact .inl (Oper.wp_mono next (sem_sound hT hsd hd h hk))
        · simp only [hw, Bool.false_eq_true, if_false]
          exact next _ _ ⟨cx, _, σ, h.putO (dOK_spec hd) (.v (.c undef)), hk⟩
    refine wpAnyH_all (rs := [i, j]) hB1 (by simp) (fun q hq => ?_)
    rcases List.mem_cons.1 hq with rfl | hq
    · exact go q ra rfl hBa (fun {B} hsd hQ {cx s σ a w} h he hk => semF_sound hT hs ra early _ hsd hQ hBa h he hk) hk.1
    · have hq : q = j := by simpa using hq
      subst hq
      exact go q rb hlen.symm hBb (fun {B} hsd hQ {cx s σ a w} h he hk => semF_sound hT hs rb early _ hsd hQ hBb h he hk) hk.2
  | .fork3 i ra j rb k rc, early, listed, B, hsd, hQ, cx, s, σ, a, w, hB, h, he, hk => by
    simp only [schedG, Bool.and_eq_true] at hB
    obtain ⟨⟨⟨⟨hB1, hlen, hlen2⟩, hBa⟩, hBb⟩, hBc⟩ := hB
    have hlen : ra.len = rb.len := by simpa using hlen
    have hlen2 : ra.len = rc.len := by simpa using hlen2
    have hB1 : Region.ready .any ops listed = [i, j, k] := by simpa using hB1
    simp only [semF] at hk
    have go : ∀ (q : Nat) (r : Tf), r.len = ra.len → schedG P ops r early (listed.setIfInBounds q true) = true → (∀ {B : Base} (_hsd : B.sd = T.sd) (_hQ : ∀ a w, KC B n K a w → Q a w) {cx : Cx} {s : St} {σ : Hp} {a : Act} {w : World}, SR B n cx s σ a w →
        (early = true → (∀ g, cx.I g → B.still g) ∧ (∀ d cells, T.sd d = true → s.l d = some cells → B.still (cx.L d))) →
        semF P T n ops.toList (ops.toList.map (·.dst)) r K s σ → wpAnyH P .any ops (onlyN Q) (stillW B) r.len (listed.setIfInBounds q true) a w) →
        one P T n ops.toList (ops.toList.map (·.dst)) q 2 (semF P T n ops.toList (ops.toList.map (·.dst)) r K) s σ → wpOp P ops (onlyN Q) q (fun a' w' => stillW B w' ∧ wpAnyH P .any ops (onlyN Q) (stillW B) ra.len (listed.setIfInBounds q true) a' w') a w := fun q r hl hBr ih hk => by
      simp only [one] at hk
      cases hi : ops.toList[q]? with
      | none => simp [hi] at hk
      | some o =>
        simp only [hi] at hk
        obtain ⟨hd, hst, hk⟩ := hk
        have hi' : ops[q]? = some o := by simpa using hi
        have next : ∀ a' w', KC B n (semF P T n ops.toList (ops.toList.map (·.dst)) r K) a' w' → stillW B w' ∧ wpAnyH P .any ops (onlyN Q) (stillW B) ra.len (listed.setIfInBounds q true) a' w' := fun a' w' ⟨cx', s', σ', h', hk'⟩ =>
          ⟨h'.stillW, wpAnyH_mono (S' := stillW (B.re cx' s'.l T.sd w')) (fun w'' hw g hg => (hw g (.inl hg)).trans (h'.stab g hg)) _ _ _ _
            (hl ▸ ih rfl (fun a'' w'' ⟨cx2, s2, σ2, h2, hk2⟩ => hQ a'' w'' ⟨cx2, s2, σ2, h2.ofRe hsd (fun g hg => h'.stab g hg), hk2⟩) (h'.re hsd)
              (fun _ => ⟨fun g hg => .inr (.inl hg), fun d cells hd hl => .inr (.inr ⟨d, cells, hd, hl, rfl⟩)⟩) hk')⟩
        unfold wpOp
        simp only [hi']
        rcases gate_wanted (ops := ops) h hk with ⟨hw, hk⟩ | ⟨hw, hk⟩
        · simp only [hw, if_true]
          exact .inl (Oper.wp_mono next (sem_sound hT hsd hd h hk))
        · simp only [hw, Bool.false_eq_true, if_false]
          exact next _ _ ⟨cx, _, σ, h.putO (dOK_spec hd) (.v (.c undef)), hk⟩
    refine wpAnyH_all (rs := [i, j, k]) hB1 (by simp) (fun q hq => ?_)
    rcases List.mem_cons.1 hq with rfl | hq
    · exact go q ra rfl hBa (fun {B} hsd hQ {cx s σ a w} h he hk => semF_sound hT hs ra early _ hsd hQ hBa h he hk) hk.1
    rcases List.mem_cons.1 hq with rfl | hq
    · exact go q rb hlen.symm hBb (fun {B} hsd hQ {cx s σ a w} h he hk => semF_sound hT hs rb early _ hsd hQ hBb h he hk) hk.2.1
    · have hq : q = k := by simpa using hq
      subst hq
      exact go q rc hlen2.symm hBc (fun {B} hsd hQ {cx s σ a w} h he hk => semF_sound hT hs rc early _ hsd hQ hBc h he hk) hk.2.2
theorem AW.drawF {Q : Exit → St → Hp → Prop} (hT : T.ok P) (hm : P.follows .mixedOrders = true) {id : Nat} {l : List Oper} (t : Tf) (hlen : t.len = l.length) (hs : Region.noSelect l.toArray = true)
  (hB : schedH P l t true (List.replicate l.length false) = true) (h : semF P T n l (l.map (·.dst)) t (fun s σ => Q .normal s σ) s σ) : AW P n (.region id l.toArray true) Q s σ :=
 fun B cx a w h1 _ h3 => by
  have hB : schedG P l.toArray t true (Array.replicate l.length false) = true := by
   rw [schedH_eq _ _ _ _ _ (by simp)] at hB
   exact hB
  have h4 := h3.drew
  have h5 := h4.toAt T.sd
  refine wp_mono (Q := onlyN (fun a w => QC B n Q .normal a w)) (wp_region_held (S := stillW (B.at cx s.l T.sd w.drew)) hm ?_) (fun e a w hq => by cases e <;> first | exact hq | exact hq.elim)
  have := semF_sound hT hs (Q := fun a w => QC B n Q .normal a w) (K := fun s σ => Q .normal s σ)
   t true (Array.replicate l.length false) (B := B.at cx s.l T.sd w.drew) rfl (fun a w ⟨cx', s', σ', h6, h7⟩ => ⟨cx', s', σ', h6.ofAt h1, h7⟩) hB h5 (fun _ => ⟨fun g hg => .inl hg, fun d cells hd hl => .inr ⟨d, cells, hd, hl, rfl⟩⟩) (by simpa using h)
  rw [hlen] at this
  simpa using this
section
variable {ops : List Oper} {i k d j : Nat} {r : Tf} {o : Oper} {ds : List (Option Nat)} {b : Bool}
theorem F.g (ho : ops[i]? = some o) (hs : stC T s k o.op) (hd : okd n o.dst = true) (hg : o.guard = none)
  (h : ∀ K' : St → Hp → Prop, (∀ s σ, semF P T n ops ds r K s σ → K' s σ) → semOp P T o K' s σ) : semF P T n ops ds (.st i k r) K s σ := by
 have := D.g (P := P) (T := T) (n := n) (s := s) (σ := σ) (K := semF P T n ops ds r K) (ds := ds) (ops := ops) (i := i) (k := k) (l := []) ho hs hd hg h
 exact this
theorem F.y (ho : ops[i]? = some o) (hs : stC T s k o.op) (hd : okd n o.dst = true) (hg : o.guard = some (j, b)) (hj : ds[j]? = some (some d)) (hb : s.t d = .c (.bool b))
  (h : ∀ K' : St → Hp → Prop, (∀ s σ, semF P T n ops ds r K s σ → K' s σ) → semOp P T o K' s σ) : semF P T n ops ds (.st i k r) K s σ := by
 have := D.y (P := P) (T := T) (n := n) (s := s) (σ := σ) (K := semF P T n ops ds r K) (ds := ds) (ops := ops) (i := i) (k := k) (l := []) ho hs hd hg hj hb h
 exact this
theorem F.x (ho : ops[i]? = some o) (hk : k = 1 → isLoad o.op = true) (hd : okd n o.dst = true) (hg : o.guard = some (j, b)) (hj : ds[j]? = some (some d)) (hb : s.t d = .c (.bool (!b)))
  (h : ∀ K' : St → Hp → Prop, (∀ s σ, semF P T n ops ds r K s σ → K' s σ) → K' (s.putO o.dst (.c undef)) σ) : semF P T n ops ds (.st i k r) K s σ := by
 have := D.x (P := P) (T := T) (n := n) (s := s) (σ := σ) (K := semF P T n ops ds r K) (ds := ds) (ops := ops) (i := i) (k := k) (l := []) ho hk hd hg hj hb h
 exact this
theorem F.u (ho : ops[i]? = some o) (hk : k = 1 → isLoad o.op = true) (hd : okd n o.dst = true) (hg : o.guard = some (j, b)) (hj : ds[j]? = some (some d)) (hb : s.t d = .c undef)
  (h : ∀ K' : St → Hp → Prop, (∀ s σ, semF P T n ops ds r K s σ → K' s σ) → K' (s.putO o.dst (.c undef)) σ) : semF P T n ops ds (.st i k r) K s σ := by
 have := D.u (P := P) (T := T) (n := n) (s := s) (σ := σ) (K := semF P T n ops ds r K) (ds := ds) (ops := ops) (i := i) (k := k) (l := []) ho hk hd hg hj hb h
 exact this
theorem F.nil (h : K s σ) : semF P T n ops ds .nil K s σ := h
theorem F.cut {t : Tf} (J : St → Hp → Prop) (h : J s σ) (k : ∀ s σ, J s σ → semF P T n ops ds t K s σ) : semF P T n ops ds t K s σ := k s σ h
theorem F.fork3 {a c e : Tf} {q : Nat} (h1 : semF P T n ops ds (.st i 2 a) K s σ) (h2 : semF P T n ops ds (.st j 2 c) K s σ) (h3 : semF P T n ops ds (.st q 2 e) K s σ) : semF P T n ops ds (.fork3 i a j c q e) K s σ := ⟨h1, h2, h3⟩
theorem F.fork {a c : Tf} (h1 : semF P T n ops ds (.st i 2 a) K s σ) (h2 : semF P T n ops ds (.st j 2 c) K s σ) : semF P T n ops ds (.fork i a j c) K s σ := ⟨h1, h2⟩
end
end
end Go.Abs
namespace Go.Abs
open Go
section
variable {P : Program} {σ : Hp}
variable [Mode]
theorem ACalls.freeze {f : FuncId} {args : List V} {R R' : V → Hp → Prop} (h : ACalls P f args σ R)
  (hr : ∀ v σ', R v σ' → ∃ k T es, v = .gl k ∧ σ'.gr k = some (T, es) ∧ R' (.sl es) (σ'.setGr k none)) : ACalls P f args σ R' := by
 refine ⟨h.1, fun cx w xs hH ha => (h.2 cx w xs hH ha).mono fun e w' ⟨v, r, cx', σ', h1, h2, h3, h4⟩ => ?_⟩
 obtain ⟨k, T, es, rfl, hk, hR⟩ := hr v σ' h4
 obtain ⟨cx2, hle, hL, hI, hH2, hv⟩ := h3.heap.freeze hk
 have hsub : ∀ g, (σ'.setGr k none).own cx2 g → σ'.own cx' g := fun g hg => by
  rcases hg with ⟨c, hc⟩ | ⟨j, x, hj, hb⟩
  ·exact .inl ⟨c, hc⟩
  ·by_cases ej : j = k
   ·simp [Hp.setGr, ej] at hj
   ·simp only [Hp.setGr, ej, if_false] at hj
    have hjn := (h3.heap.gr j x.1 x.2 hj).1
    rw [hle.M j hjn] at hb
    exact .inr ⟨j, x, hj, hb⟩
 have hcx : r = cx'.M k := by cases h2; rfl
 refine ⟨.sl es, r, cx2, σ'.setGr k none, h1, hcx ▸ hv, ⟨hH2, ⟨h3.ext.os, h3.ext.tape, h3.ext.output, h3.ext.size, h3.ext.block, h3.ext.le.trans hle, fun g hg => ?_, fun g hg => h3.ext.fnew g (hsub g hg)⟩, fun j x hj => ?_, fun g x hg => h3.onew g x hg⟩, hR⟩
 ·rcases hI g hg with hg | hg
  ·exact h3.ext.inew g hg
  ·rcases h3.ext.fnew g (.inr ⟨k, _, hk, hg⟩) with h | h
   ·exact .inr (.inl h)
   ·exact .inr (.inr h)
 ·by_cases ej : j = k
  ·simp [Hp.setGr, ej] at hj
  ·simp only [Hp.setGr, ej, if_false] at hj
   exact h3.gnew j x hj
end
end Go.Abs
namespace Go.Abs
open Go
section
variable {P : Program}
variable [Mode]
end
section
variable {P : Program} {T : Tab} {B : Base} {n : Nat} {cx cx' : Cx} {s : St} {σ σ' : Hp} {a : Act} {w w' : World} {K : St → Hp → Prop}
variable [Mode]
def semAppendG (P : Program) (t : TypeId) (x y : V) (d : Option Nat) (K : St → Hp → Prop) (s : St) (σ : Hp) : Prop :=
  match dstE σ (P.elem t) (szT P (P.elem t)) x, y with
  | some (ok, es), .c (.int _ c) => ∃ z, zeroT P (P.elem t) = some z ∧ slT P t = true ∧ szT P (P.elem t) ≠ 0 ∧ z.cells.size = szT P (P.elem t) ∧ oneAll z.cells.toList = true ∧ 0 < c ∧ es.length + c.toNat ≤ maxLen ∧
      (es.length + c.toNat) * P.bytesOf (P.elem t) ≤ reach ∧
      ∀ k', (σ.delO ok).gr k' = none → K (s.putO d (.gl k')) ((σ.delO ok).setGr k' (some ((P.elem t, szT P (P.elem t)), es ++ List.replicate c.toNat (z.cells.toList.map .c))))
  | _, _ => False
def semX (P : Program) (T : Tab) (o : Oper) (K : St → Hp → Prop) (s : St) (σ : Hp) : Prop :=
  semOp P T o K s σ ∨ ∃ t t' x y ki, P.underlying t' = some (.int ki) ∧ o.op = .call { callee := .builtin .append, args := #[x, y], argTypes := #[t, t'] } ∧ semAppendG P t (ev s x) (ev s y) o.dst K s σ
def semLX (P : Program) (T : Tab) (n : Nat) : List Oper → (St → Hp → Prop) → St → Hp → Prop
  | [], K, s, σ => K s σ
  | o :: r, K, s, σ => dOK n o.dst ∧ o.guard = none ∧ semX P T o (semLX P T n r K) s σ
theorem XS.g {o : Oper} {r : List Oper} (hd : okd n o.dst = true) (hg : o.guard = none) (h : semOp P T o (semLX P T n r K) s σ) : semLX P T n (o :: r) K s σ := ⟨okd_ok hd, hg, .inl h⟩
theorem XS.mk {o : Oper} {r : List Oper} {t t' : TypeId} {x y : Operand} {ki : IntKind} (hd : okd n o.dst = true) (hg : o.guard = none) (h1 : P.underlying t' = some (.int ki)) (h2 : o.op = .call { callee := .builtin .append, args := #[x, y], argTypes := #[t, t'] })
  (h : semAppendG P t (ev s x) (ev s y) o.dst (semLX P T n r K) s σ) : semLX P T n (o :: r) K s σ := ⟨okd_ok hd, hg, .inr ⟨t, t', x, y, ki, h1, h2, h⟩⟩
end
end Go.Abs
namespace Go.Abs
open Go
section
variable {P : Program} {T : Tab} {n : Nat} {r : Option Nat} {s : St} {σ : Hp} {K : St → Hp → Prop} {Q Q' : Exit → St → Hp → Prop}
variable [Mode]
abbrev RF (ro : Option Nat) : Fence := { Fence.wide with round := ro }
theorem CallsIn.toRF {ro : Option Nat} {m : Nat} {f : FuncId} {args : Array Value} {w : World} {R : Ending → World → Prop} (h : CallsIn Fence.wide m P f args w R) : CallsIn (RF ro) m P f args w R := h
theorem upon_in' {o : Oper} {a : Act} {K K' : Act → World → Prop} {Q Q' : Exit → Act → World → Prop} (hP : ∀ c a w, Q (.panic c) a w → Q' (.panic c) a w) (hO : LetsOut Q → LetsOut Q') (hK : ∀ a w, K a w → K' a w) : ∀ {x : Result Next}, o.upon P a K Q x → o.uponIn (RF r) 0 P a K' Q' x
  | .ok (.value v) w, h => hK _ _ h
  | .ok .skip w, h => hK _ _ h
  | .ok (.defer d) w, h => hK _ _ h
  | .ok (.enter f args) w, h => by
    refine ⟨fun e => (by cases e), CallsIn.toRF ((callsIn_wide (n := 0)).2 ?_)⟩
    refine Calls.mono h fun e w'' he => ?_
    cases e with
    | returned v => exact hK _ _ he
    | panicked c => exact hP _ _ _ he
    | outgrown => exact hO he
  | .ok (.row row args) w, h => by
    refine ⟨fun e => (by cases e), fun c cs _ => ?_⟩
    obtain ⟨v, w', h1, h2⟩ := h c cs
    exact ⟨v, w', hK _ _ h1, stepsIn_wide.2 h2⟩
  | .ok (.round ..) w, h => h.elim
  | .halt (.panic v) w, h => hP _ _ _ h
  | .halt (.exit ..) w, h => h.elim
  | .halt (.fatal ..) w, h => h.elim
  | .halt (.stuck ..) w, h => h.elim
  | .halt (.unsupported ..) w, h => h.elim
theorem upon_in {o : Oper} {a : Act} {K K' : Act → World → Prop} {Q : Exit → Act → World → Prop} (hK : ∀ a w, K a w → K' a w) {x : Result Next} (h : o.upon P a K Q x) : o.uponIn (RF r) 0 P a K' Q x :=
 upon_in' (fun _ _ _ h => h) id hK h
theorem onlyN_no {Q : Act → World → Prop} : ¬ LetsOut (onlyN Q) := fun ⟨_, _, h⟩ => h
def noDefer (ops : List Oper) : Bool := ops.all fun o => match o.op with | .defer _ => false | _ => true
theorem noDefer_spec {ops : List Oper} (h : noDefer ops = true) {i : Nat} {o : Oper} (hi : ops.toArray[i]? = some o) : ∀ c, o.op ≠ .defer c := fun c e => by
 have := List.all_eq_true.1 h o (List.mem_of_getElem? (by simpa using hi))
 rw [e] at this; cases this
theorem ops_in {ops : List Oper} {Q : Exit → Act → World → Prop} (hQ : ¬ LetsOut Q) (hd : noDefer ops = true) : ∀ (l : List Nat) (a : Act) (w : World), wpOps P ops.toArray Q l a w → wpOpsIn (RF r) 0 P ops.toArray Q l a w
  | [], a, w, h => h
  | i :: l, a, w, h => by
    simp only [wpOps, wpOpsIn] at h ⊢
    cases ho : ops.toArray[i]? with
    | none => simp only [ho] at h ⊢; exact ops_in hQ hd l a w h
    | some o =>
      simp only [ho] at h ⊢
      split
      · rename_i hw
        rw [if_pos hw] at h
        refine ⟨fun _ _ => trivial, ?_⟩
        rw [Oper.semAt_eq _ _ _ (noDefer_spec hd ho)]
        rcases h with h | h
        · exact upon_in (fun a w h => ops_in hQ hd l a w h) h
        · exact (hQ h.2).elim
      · rename_i hw
        rw [if_neg hw] at h
        exact ⟨fun _ _ => trivial, ops_in hQ hd l _ w h⟩
theorem ops_at {l : List Oper} {Q1 : Act → World → Prop} {Q : Exit → Act → World → Prop} (hd : noDefer l = true) {q : Nat} : ∀ (m k : Nat) (a : Act) (w : World),
    wpList P l.toArray (onlyN Q1) ((l.drop k).take m) a w → (∀ a w, Q1 a w → wpOpsIn (RF r) 0 P l.toArray Q (List.range' (k + m) q) a w) → k + m ≤ l.length → wpOpsIn (RF r) 0 P l.toArray Q (List.range' k (m + q)) a w
  | 0, k, a, w, h, hq, _ => by
    have := hq a w (by simpa [wpList, onlyN] using h)
    simpa using this
  | m + 1, k, a, w, h, hq, hl => by
    have hlt : k < l.length := by omega
    have e1 : (l.drop k).take (m + 1) = l[k] :: (l.drop (k + 1)).take m := by rw [List.drop_eq_getElem_cons hlt, List.take_succ_cons]
    have e2 : List.range' k (m + 1 + q) = k :: List.range' (k + 1) (m + q) := by rw [show m + 1 + q = (m + q) + 1 by omega, List.range'_succ]
    have ho : l.toArray[k]? = some l[k] := by simp [hlt]
    rw [e1] at h
    rw [e2]
    have next : ∀ a w, wpList P l.toArray (onlyN Q1) ((l.drop (k + 1)).take m) a w → wpOpsIn (RF r) 0 P l.toArray Q (List.range' (k + 1) (m + q)) a w := fun a w h' =>
      ops_at hd m (k + 1) a w h' (by rw [show k + 1 + m = k + (m + 1) by omega]; exact hq) (by omega)
    simp only [wpList] at h
    simp only [wpOpsIn, ho]
    split
    · rename_i hw
      rw [if_pos hw] at h
      refine ⟨fun _ _ => trivial, ?_⟩
      rw [Oper.semAt_eq _ _ _ (noDefer_spec hd ho)]
      rcases h with h | h
      · exact upon_in' (fun c a w h => h.elim) (fun ⟨_, _, h⟩ => h.elim) next h
      · exact (onlyN_no h.2).elim
    · rename_i hw
      rw [if_neg hw] at h
      exact ⟨fun _ _ => trivial, next _ w h⟩
theorem SR.ofAtS {B : Base} {cx : Cx} {a : Act} {w : World} (hB : ∀ g, ¬ B.still g) {cx0 : Cx} {l0 : Nat → Option (List V)} {sd : Nat → Bool} {w1 : World} (h : SR (B.at cx0 l0 sd w1) n cx s σ a w) : SR B n cx s σ a w :=
 ⟨h.size, h.defers, h.nd, h.tmp, h.heap, h.box, h.ext, h.gnew, h.onew, fun g hg => (hB g hg).elim, fun g hg => (hB g hg).elim, fun _ _ _ hg => (hB _ hg).elim⟩
def AWR (P : Program) (n : Nat) (r : Option Nat) (c : Code) (Q : Exit → St → Hp → Prop) (s : St) (σ : Hp) : Prop :=
  ∀ (B : Base) (cx : Cx) (a : Act) (w : World), (∀ g, ¬ B.still g) → B.sd = (fun _ => false) → SR B n cx s σ a w → c.wpIn (RF r) 0 P (QC B n Q) a w
theorem AWR.mono {c : Code} (h : AWR P n r c Q s σ) (hq : ∀ e s σ, Q e s σ → Q' e s σ) : AWR P n r c Q' s σ :=
 fun B cx a w h1 h2 h3 => wpIn_mono (h B cx a w h1 h2 h3) fun e _ _ ⟨cx', s', σ', h4, h5⟩ => ⟨cx', s', σ', h4, hq e s' σ' h5⟩
theorem AWR.skip (h : Q .normal s σ) : AWR P n r .skip Q s σ := fun _ cx _ _ _ _ h3 => wpIn_skip ⟨cx, s, σ, h3, h⟩
theorem AWR.exit {id : Nat} (h : Q (.exit id) s σ) : AWR P n r (.exit id) Q s σ := fun _ cx _ _ _ _ h3 => wpIn_exit ⟨cx, s, σ, h3, h⟩
theorem AWR.ret (h : Q .ret s σ) : AWR P n r .ret Q s σ := fun _ cx _ _ _ _ h3 => wpIn_ret ⟨cx, s, σ, h3, h⟩
theorem AWR.seq {x y : Code} (h : AWR P n r x (thenS (AWR P n r y Q) Q) s σ) : AWR P n r (.seq x y) Q s σ :=
 fun B cx a w h1 h2 h3 => wpIn_seq (wpIn_mono (h B cx a w h1 h2 h3) fun e a' w' ⟨cx', s', σ', h4, h5⟩ => by
  cases e with
  | normal => exact h5 B cx' a' w' h1 h2 h4
  | _ => exact ⟨cx', s', σ', h4, h5⟩)
theorem AWR.seq_k {x y : Code} (h : ∀ K : St → Hp → Prop, (∀ s σ, AWR P n r y Q s σ → K s σ) → AWR P n r x (thenS K Q) s σ) : AWR P n r (.seq x y) Q s σ :=
 .seq (h _ fun _ _ h => h)
theorem AWR.cond {c : Operand} {x y : Code} {b : Bool} (hc : ev s c = .c (.bool b)) (ht : b = true → AWR P n r x Q s σ) (hf : b = false → AWR P n r y Q s σ) : AWR P n r (.cond c x y) Q s σ :=
 fun B cx a w h1 h2 h3 => by
  have hv := h3.tr c
  rw [hc] at hv
  exact wpIn_cond_split hv.c_eq (fun e => ht e B cx a w h1 h2 h3) (fun e => hf e B cx a w h1 h2 h3)
theorem AWR.block {id : Nat} {c : Code} (h : AWR P n r c (inBlockS id Q) s σ) : AWR P n r (.block id c) Q s σ :=
  fun B cx a w h1 h2 h3 => wpIn_block (wpIn_mono (h B cx a w h1 h2 h3) fun e a' w' ⟨cx', s', σ', h4, h5⟩ => by
    cases e with
    | exit id' =>
      simp only [Exit.inBlock, inBlockS] at h5 ⊢
      split
      · rename_i e; rw [if_pos e] at h5; exact ⟨cx', s', σ', h4, h5⟩
      · rename_i e; rw [if_neg e] at h5; exact ⟨cx', s', σ', h4, h5⟩
    | _ => exact ⟨cx', s', σ', h4, h5⟩)
theorem wpIn_onlyN {c : Code} {B : Base} {a : Act} {w : World} (h : c.wpIn (RF r) 0 P (onlyN fun a w => QC B n Q .normal a w) a w) : c.wpIn (RF r) 0 P (QC B n Q) a w :=
 wpIn_mono h fun e a w hq => by cases e <;> first | exact hq | exact hq.elim
theorem AWR.region (hT : T.ok P) (hsd : T.sd = fun _ => false) {id : Nat} {l : List Oper} (hd : noDefer l = true) (h : semL P T n (l.map (·.dst)) l (fun s σ => Q .normal s σ) s σ) : AWR P n r (.region id l.toArray false) Q s σ :=
 fun B cx a w _ h2 h3 => wpIn_onlyN (wpIn_region (ops_in onlyN_no hd _ _ _ (by
  have := semL_sound (Q := onlyN fun a w => QC B n Q .normal a w) hT (h2.trans hsd.symm) (ops := l.toArray) l h3 (fun a w ⟨cx, s, σ, h4, h5⟩ => ⟨cx, s, σ, h4, h5⟩) (by simpa using h)
  rw [List.range_eq_range', ← Array.length_toList, wpOps_eq_wpList l.toArray.toList 0 (by simp)]
  simpa using this)))
theorem AWR.reg0 {id : Nat} {l : List Oper} (h : noDefer l = true ∧ semL P {} n (l.map (·.dst)) l (fun s σ => Q .normal s σ) s σ) : AWR P n r (.region id l.toArray false) Q s σ :=
 .region (T := {}) (fun _ _ h => by cases h) rfl h.1 h.2
theorem region_heldR {id : Nat} {l : List Oper} {S : World → Prop} {Q : Exit → Act → World → Prop} {a : Act} {w : World} (hm : P.follows .mixedOrders = true) (hQ : ¬ LetsOut Q) (hd : noDefer l = true)
  (h : wpAnyH P .any l.toArray Q S l.toArray.size (Array.replicate l.toArray.size false) a { w with drawn := w.drawn + 1 }) : (Code.region id l.toArray true).wpIn (RF r) 0 P Q a w :=
 wpIn_region_draw fun t => ops_in hQ hd _ _ _ (by
  simp only [Region.schedule, hm, Bool.true_or, if_true]
  exact wpAny_sound _ t _ a _ (wpAny_of_held _ _ _ _ h))
theorem AWR.drawF (hT : T.ok P) (hm : P.follows .mixedOrders = true) {id : Nat} {l : List Oper} (t : Tf) (hlen : t.len = l.length) (hs : Region.noSelect l.toArray = true)
  (hB : (noDefer l && schedH P l t true (List.replicate l.length false)) = true) (h : semF P T n l (l.map (·.dst)) t (fun s σ => Q .normal s σ) s σ) : AWR P n r (.region id l.toArray true) Q s σ :=
 fun B cx a w h1 _ h3 => by
  rw [Bool.and_eq_true] at hB
  obtain ⟨hd, hB⟩ := hB
  have hB : schedG P l.toArray t true (Array.replicate l.length false) = true := by
   rw [schedH_eq _ _ _ _ _ (by simp)] at hB
   exact hB
  have h4 := h3.drew
  have h5 := h4.toAt T.sd
  refine wpIn_onlyN (region_heldR (S := stillW (B.at cx s.l T.sd w.drew)) hm onlyN_no hd ?_)
  have := semF_sound hT hs (Q := fun a w => QC B n Q .normal a w) (K := fun s σ => Q .normal s σ)
   t true (Array.replicate l.length false) (B := B.at cx s.l T.sd w.drew) rfl (fun a w ⟨cx', s', σ', h6, h7⟩ => ⟨cx', s', σ', h6.ofAtS h1, h7⟩) hB h5 (fun _ => ⟨fun g hg => .inl hg, fun d cells hd hl => .inr ⟨d, cells, hd, hl, rfl⟩⟩) (by simpa using h)
  rw [hlen] at this
  simpa using this
end
end Go.Abs
namespace Go.Abs
open Go
section
variable {P : Program} {n : Nat} {s : St} {σ : Hp}
variable [Mode]
def Cx.im (I : Nat → Prop) : Cx := ⟨I, fun _ => undef, fun _ => 0, 0, fun _ => 0⟩
theorem VR.ofIm {w : World} {I : Nat → Prop} {cx : Cx} {v : V} {x : Value} (h : VR w (Cx.im I) v x) (hI : ∀ g, I g → cx.I g) : VR w cx v x :=
 h.keep (fun _ _ => rfl) ⟨hI, Nat.zero_le _, fun k hk => absurd hk (Nat.not_lt_zero k), fun k hk => absurd hk (Nat.not_lt_zero k)⟩
inductive Imm : V → Prop
  | c (x : Value) : Imm (.c x)
  | sl {es : List (List V)} (h : ∀ e : List V, e ∈ es → ∀ v : V, v ∈ e → Imm v) : Imm (.sl es)
  | ip {es : List (List V)} {i off : Nat} (h : ∀ e : List V, e ∈ es → ∀ v : V, v ∈ e → Imm v) : Imm (.ip es i off)
  | agg {vs : List V} (h : ∀ v : V, v ∈ vs → Imm v) : Imm (.agg vs)
theorem VR.toIm {w : World} {cx : Cx} {v : V} {x : Value} (h : VR w cx v x) (hv : Imm v) : VR w (Cx.im cx.I) v x := by
  induction h with
  | c x => exact .c x
  | nils => exact .nils
  | nile a => exact .nile a
  | sl f hb hcap hlen hc hr h1 ih =>
    cases hv with
    | sl h => exact .sl f hb hcap hlen hc (fun i e j v hi hj => ih i e j v hi hj (h e (List.mem_of_getElem? hi) v (List.mem_of_getElem? hj))) h1
  | ip f hb hi hlen hc hr h1 ih =>
    cases hv with
    | ip h => exact .ip f hb hi hlen hc (fun i e j v hi hj => ih i e j v hi hj (h e (List.mem_of_getElem? hi) v (List.mem_of_getElem? hj))) h1
  | gl hk hs => cases hv
  | gp hk hg => cases hv
  | gv hk hg hn => cases hv
  | agg h1 hn _ ih => cases hv with | agg h => exact .agg h1 hn (fun i v x hv hx => ih i v x hv hx (h v (List.mem_of_getElem? hv)))
  | tup hn _ ih => cases hv
  | fn hn _ hm _ ih1 ih2 => cases hv
structure Newer (W W' : World) : Prop where
  os : W'.os = W.os
  tape : W'.tape = W.tape
  output : W'.output = W.output ∧ (Mode.dm → W.drawn ≤ W'.drawn)
  size : W.heap.size ≤ W'.heap.size
  block : ∀ g, g < W.heap.size → W'.heap[g]? = W.heap[g]?
theorem Newer.refl (W : World) : Newer W W := ⟨rfl, rfl, ⟨rfl, fun _ => Nat.le_refl _⟩, Nat.le_refl _, fun _ _ => rfl⟩
def MoreI (I I' : Nat → Prop) (W W' : World) : Prop := (∀ g, I g → I' g) ∧ ∀ g, I' g → I g ∨ (W.heap.size ≤ g ∧ g < W'.heap.size)
def Iter (P : Program) (f : FuncId) (caps : List V) (xs : List V) : Prop :=
  (∀ (zs : Array Value) (w : World), (callFunc f zs).run P w = .ok (.enter f zs) w) ∧
  ∀ (l : Nat) (W0 : World) (I0 : Nat → Prop) (cv : List Value) (J : Nat → (Nat → Prop) → World → Prop) (Jx : World → Prop),
    VAs W0 (Cx.im I0) caps cv →
    (∀ i I W, J i I W → ∀ g, I g → g < W.heap.size) →
    (∀ i I W I' W', J i I W → Newer W W' → MoreI I I' W W' → J i I' W') →
    (∀ I W I' W', Jx W → Newer W W' → MoreI I I' W W' → Jx W') →
    (∀ i I W v x, J i I W → xs[i]? = some v → VR W (Cx.im I) v x → YieldAt Fence.wide 0 P l #[x] W fun e W' =>
      (e = .returned (.bool true) ∧ ∃ I', J (i + 1) I' W' ∧ (∀ g, I g → I' g ∧ W'.heap[g]? = W.heap[g]?)) ∨ (e = .returned (.bool false) ∧ Jx W')) →
    J 0 I0 W0 →
    CallsIn Fence.wide 0 P f (#[.func (.yield l) #[] #[]] ++ ⟨cv⟩) W0 fun e W' => (∃ v, e = .returned v) ∧ ((∃ I, J xs.length I W') ∨ Jx W')
def keepV : V → V
  | .c x => .c x
  | .sl es => .sl es
  | .ip es i o => .ip es i o
  | .fn f a b => .fn f a b
  | _ => .junk
def Base.it (cx : Cx) (w : World) : Base := { cx := cx, F := fun _ => False, w := w, g := fun _ => False, o := fun _ => False, nd := true }
theorem Base.it_Ext {cx : Cx} {w : World} : Ext cx (fun _ => False) w cx (foot cx Hp.empty fun _ => none) w :=
 ⟨rfl, rfl, ⟨rfl, fun _ => Nat.le_refl _⟩, Nat.le_refl _, fun _ _ _ => rfl, .refl _, fun _ h => .inl h, fun g hg => by
  rcases hg with hg | ⟨d, c, hd, _⟩
  ·exact (own_empty hg).elim
  ·cases hd⟩
theorem keepV_TR {w w' : World} {cx cx' : Cx} {v : V} {x : Value} (h : TR w cx v x) (hw : ∀ g, cx.I g → w'.heap[g]? = w.heap[g]?) (hle : cx.le cx') : TR w' cx' (keepV v) x := by
  cases h with
  | v h =>
    have h' := h.keep hw hle
    cases v <;> first | exact .v h' | exact .junk _
  | lp d off => exact .junk _
  | junk => exact .junk _
theorem SR.again {B : Base} {cx : Cx} {a : Act} {w W' : World} {I' : Nat → Prop} (h : SR B n cx s σ a w) (hnd : B.nd = true) (hI : ∀ g, cx.I g → I' g ∧ W'.heap[g]? = w.heap[g]?) (hlt : ∀ g, I' g → g < W'.heap.size) :
  SR (Base.it { cx with I := I' } W') n { cx with I := I' } ⟨fun t => keepV (s.t t), fun _ => none⟩ Hp.empty a W' := by
 have hle : cx.le { cx with I := I' } := ⟨fun g hg => (hI g hg).1, Nat.le_refl _, fun _ _ => rfl, fun _ _ => rfl⟩
 have hd := h.nd hnd
 refine ⟨h.size, by rw [hd]; exact Marks.nil, fun _ => hd, fun t => keepV_TR (h.tmp t) (fun g hg => (hI g hg).2) hle, ⟨fun g c hc => (by cases hc), fun k T es hk => (by cases hk), fun k k' x x' g hk => (by cases hk), fun k x g c hk => (by cases hk), fun g hg => (own_empty hg).elim, fun g hg => hlt g hg⟩,
  ⟨fun d c hd => (by cases hd), fun d c hd => (by cases hd), fun d e c c' hd => (by cases hd)⟩, Base.it_Ext, fun k x hk => (by cases hk), fun g x hk => (by cases hk), fun g hs => hs.elim, fun g hs => hs.elim, fun d c hd => (by cases hd)⟩
theorem SR.newer {B : Base} {cx0 cx : Cx} {a : Act} {w W : World} (hB : B = Base.it cx0 W) (h : SR B n cx s σ a w) : Newer W w ∧ MoreI cx0.I cx.I W w := by
 subst hB
 have he := h.ext
 refine ⟨⟨he.os, he.tape, he.output, he.size, fun g hg => he.block g hg (fun h => h)⟩, fun g hg => he.le.I g hg, fun g hg => ?_⟩
 rcases he.inew g hg with h1 | h1 | h1
 ·exact .inl h1
 ·exact h1.elim
 ·exact .inr ⟨h1, h.heap.ilt g hg⟩
theorem SR.itBegin {W : World} {I : Nat → Prop} {args : List V} {xs : List Value} {k : Nat} (ha : VAs W (Cx.im I) args xs) (_l : args.length ≤ n) (hk : xs.length + k = n) (hlt : ∀ g, I g → g < W.heap.size) :
  SR (Base.it (Cx.im I) W) n (Cx.im I) (enterS args) Hp.empty { tmps := (⟨xs⟩ : Array Value) ++ Array.replicate k undef, defers := [] } W := by
 refine ⟨by simp; omega, Marks.nil, fun _ => rfl, fun t => ?_, ⟨fun g c hc => (by cases hc), fun k T es hk => (by cases hk), fun k k' x x' g hk => (by cases hk), fun k x g c hk => (by cases hk), fun g hg => (own_empty hg).elim, fun g hg => hlt g hg⟩,
  ⟨fun d c hd => (by cases hd), fun d c hd => (by cases hd), fun d e c c' hd => (by cases hd)⟩, Base.it_Ext, fun k x hk => (by cases hk), fun g x hk => (by cases hk), fun g hs => hs.elim, fun g hs => hs.elim, fun d c hd => (by cases hd)⟩
 show TR W _ (args.getD t .junk) _
 by_cases ht : t < args.length
 ·have h1 : args[t]? = some args[t] := List.getElem?_eq_getElem ht
  have htx : t < xs.length := by rw [← ha.1]; exact ht
  have h2 : xs[t]? = some xs[t] := List.getElem?_eq_getElem htx
  have h3 := ha.2 t _ _ h1 h2
  have e1 : args.getD t .junk = args[t] := by simp [List.getD, h1]
  have e2 : ((⟨xs⟩ : Array Value) ++ Array.replicate k undef).getD t undef = xs[t] := by
   simp [Array.getD_eq_getD_getElem?, Array.getElem?_append, htx]
  rw [e1]
  show TR W _ _ (((⟨xs⟩ : Array Value) ++ Array.replicate k undef).getD t undef)
  rw [e2]
  exact .v h3
 ·have e1 : args.getD t .junk = .junk := by simp [List.getD, List.getElem?_eq_none (Nat.le_of_not_lt ht)]
  rw [e1]; exact .junk _
theorem it_region {B : Base} {cx : Cx} {a : Act} {w : World} {K : St → Hp → Prop} {id : Nat} {l : List Oper} (h : SR B n cx s σ a w) (hsd : B.sd = fun _ => false) (hs : semL P {} n (l.map (·.dst)) l K s σ) :
  (Code.region id l.toArray false).wpIn Fence.wide 0 P (onlyN (KC B n K)) a w :=
 wpIn_wide.2 (wp_region_lit (semL_sound (Q := onlyN (KC B n K)) (T := {}) (fun _ _ h => by cases h) hsd (ops := l.toArray) l h (fun a w h => h) (by simpa using hs)))
theorem it_part {B : Base} {cx : Cx} {a : Act} {w : World} {K : St → Hp → Prop} {l : List Oper} (m k q : Nat) {Q : Exit → Act → World → Prop} (hd : noDefer l = true) (hl : k + m ≤ l.length) (h : SR B n cx s σ a w) (hsd : B.sd = fun _ => false)
  (hs : semL P {} n (l.map (·.dst)) ((l.drop k).take m) K s σ) (hq : ∀ a w, KC B n K a w → wpOpsIn Fence.wide 0 P l.toArray Q (List.range' (k + m) q) a w) : wpOpsIn Fence.wide 0 P l.toArray Q (List.range' k (m + q)) a w :=
 ops_at (r := none) hd m k a w (semL_sound (Q := onlyN (KC B n K)) (T := {}) (fun _ _ h => by cases h) hsd (ops := l.toArray) _ h (fun a w h => h) (by simpa using hs)) hq hl
theorem it_yield {ops : Array Oper} {i q l : Nat} {o : Oper} {f x : Operand} {a : Act} {w : World} {v : Value} {Q : Exit → Act → World → Prop} {R : Ending → World → Prop} (ho : ops[i]? = some o) (hg : o.guard = none) {tys : Array TypeId}
  (hop : o.op = .call { callee := .value f, args := #[x], argTypes := tys }) (hf : a.eval f = .func (.yield l) #[] #[]) (hx : a.eval x = v) (hy : YieldAt Fence.wide 0 P l #[v] w R)
  (hR : ∀ e w', R e w' → ∃ b : Bool, e = .returned (.bool b) ∧ wpOpsIn Fence.wide 0 P ops Q (List.range' (i + 1) q) (a.put o.dst (.bool b)) w') : wpOpsIn Fence.wide 0 P ops Q (List.range' i (q + 1)) a w := by
 obtain ⟨fn, tmps, assign, body, h1, h2⟩ := hy
 rw [List.range'_succ]
 simp only [wpOpsIn, ho]
 rw [if_pos (by simp [Region.wanted, hg])]
 refine ⟨fun _ _ => trivial, ?_⟩
 rw [Oper.semAt_eq _ _ _ (by rw [hop]; intro c e; cases e)]
 have key : ∀ ρ : Operand → Value, ρ f = .func (.yield l) #[] #[] → ρ x = v → (execOp ρ o).run P w = .ok (.round l fn tmps assign body) w := fun ρ hf hx => by
  unfold execOp
  rw [hop]
  simp only [resolve, hf]
  simp [go_sem, invoke, hx, h1]
 have hrun := key _ hf hx
 rw [hrun]
 refine ⟨fun e => (by cases e), h2.mono fun e w' he => ?_⟩
 obtain ⟨b, rfl, h3⟩ := hR e w' he
 exact h3
def keepC : V → V
  | .c x => .c x
  | _ => .junk
theorem SR.stop {B : Base} {cx : Cx} {a : Act} {w : World} (W' : World) (h : SR B n cx s σ a w) (hnd : B.nd = true) :
  SR (Base.it { cx with I := fun _ => False } W') n { cx with I := fun _ => False } ⟨fun t => keepC (s.t t), fun _ => none⟩ Hp.empty a W' := by
 have hd := h.nd hnd
 refine ⟨h.size, by rw [hd]; exact Marks.nil, fun _ => hd, fun t => ?_, ⟨fun g c hc => (by cases hc), fun k T es hk => (by cases hk), fun k k' x x' g hk => (by cases hk), fun k x g c hk => (by cases hk), fun g hg => (own_empty hg).elim, fun g hg => hg.elim⟩,
  ⟨fun d c hd => (by cases hd), fun d c hd => (by cases hd), fun d e c c' hd => (by cases hd)⟩, Base.it_Ext, fun k x hk => (by cases hk), fun g x hk => (by cases hk), fun g hs => hs.elim, fun g hs => hs.elim, fun d c hd => (by cases hd)⟩
 have ht := h.tmp t
 show TR W' _ (keepC (s.t t)) _
 generalize s.t t = v at ht
 generalize a.tmps.getD t undef = x at ht
 cases v with
 | c u => rw [ht.c_eq]; exact .v (.c u)
 | _ => exact .junk _
theorem SR.nothing {B : Base} {cx : Cx} {a : Act} {w : World} {fn : Func} (h : SR B n cx s σ a w) (hr : fn.results = #[]) : ∃ v, (results fn a.tmps).run P w = .ok v w := by
 obtain ⟨vs, ys, _, _, h5⟩ := resVs_run (P := P) (rs := []) (k := fun _ => True) h trivial
 exact ⟨_, results_run (rs := []) hr _ _ h5⟩
end
end Go.Abs
namespace Go.Abs
open Go Go.RowKit
section
variable {P : Program} {n : Nat} {s s' : St} {σ σ' : Hp} {B : Base} {cx cx' : Cx} {a a' : Act} {w w' : World}
variable [Mode]
def Base.rnd (cx : Cx) (σ : Hp) (l : Nat → Option (List V)) (w : World) : Base :=
  { cx := cx, F := foot cx σ l, w := w, g := fun k => ∃ y, σ.gr k = some y, o := fun g => ∃ y, σ.obj g = some y, nd := true }
theorem SR.rebase (h : SR B n cx s σ a w) (hd : a.defers = []) : SR (Base.rnd cx σ s.l w) n cx s σ a w :=
 ⟨h.size, by rw [hd]; exact Marks.nil, fun _ => hd, h.tmp, h.heap, h.box, .refl _ _ _, fun k x hk => .inl ⟨x, hk⟩, fun g x hg => .inl ⟨x, hg⟩, fun g hs => hs.elim, fun g hs => hs.elim, fun d c _ hs => hs.elim⟩
theorem SR.compose (hB : B.plain) (hO : SR B n cx s σ a w) (hI : SR (Base.rnd cx σ s.l w) n cx' s' σ' a' w') : SR B n cx' s' σ' a' w' :=
 ⟨hI.size, by rw [hI.nd rfl]; exact Marks.nil, fun e => (by rw [hB.2] at e; cases e), hI.tmp, hI.heap, hI.box, hO.ext.trans hI.ext,
  fun k x hk => (hI.gnew k x hk).elim (fun ⟨y, hy⟩ => hO.gnew k y hy) (fun h1 => .inr (Nat.le_trans hO.ext.le.nm h1)),
  fun g x hk => (hI.onew g x hk).elim (fun ⟨y, hy⟩ => hO.onew g y hy) (fun h1 => .inr (Nat.le_trans hO.ext.size h1)),
  fun g hs => (hB.1 g hs).elim, fun g hs => (hB.1 g hs).elim, fun _ _ _ hs => (hB.1 _ hs).elim⟩
def plainS (s : St) : St := ⟨fun t => keepV (s.t t), fun _ => none⟩
theorem foot_none {g : Nat} {l : Nat → Option (List V)} (h : foot cx σ (fun _ => none) g) : foot cx σ l g := by
 rcases h with h | ⟨d, c, hd, _⟩
 ·exact .inl h
 ·cases hd
theorem SR.outer {s0 : St} (hB : B.plain) (hO : SR B n cx s0 σ a w) (hI : SR (Base.rnd cx σ s0.l w) n cx' s' σ' a' w') : SR B n cx' (plainS s0) σ' a w' := by
 have himm : ∀ g, cx.I g → w'.heap[g]? = w.heap[g]? := fun g hg => hI.ext.block g (hO.heap.ilt g hg) (hO.foot_apart hg)
 refine ⟨hO.size, (hO.defers.keep hI.ext).mono (fun g hg => foot_none hg) (fun g hg => .inl hg), hO.nd, fun t => keepV_TR (hO.tmp t) himm hI.ext.le, hI.heap, ⟨fun d c hd => (by cases hd), fun d c hd => (by cases hd), fun d e c c' hd => (by cases hd)⟩, ?_,
  fun k x hk => (hI.gnew k x hk).elim (fun ⟨y, hy⟩ => hO.gnew k y hy) (fun h1 => .inr (Nat.le_trans hO.ext.le.nm h1)),
  fun g x hk => (hI.onew g x hk).elim (fun ⟨y, hy⟩ => hO.onew g y hy) (fun h1 => .inr (Nat.le_trans hO.ext.size h1)),
  fun g hs => (hB.1 g hs).elim, fun g hs => (hB.1 g hs).elim, fun _ _ _ hs => (hB.1 _ hs).elim⟩
 have h := hO.ext.trans hI.ext
 exact ⟨h.os, h.tape, h.output, h.size, h.block, h.le, h.inew, fun g hg => h.fnew g (foot_none hg)⟩
theorem keepV_keepV (v : V) : keepV (keepV v) = keepV v := by cases v <;> rfl
theorem SR.outer2 {s0 s1 : St} {a1 : Act} (hB : B.plain) (hO : SR B n cx (plainS s0) σ a w) (hR : SR B n cx s1 σ a1 w) (hM : Marks cx (foot cx σ s1.l) B.w w a.defers) (hI : SR (Base.rnd cx σ s1.l w) n cx' s' σ' a' w') : SR B n cx' (plainS s0) σ' a w' := by
 have himm : ∀ g, cx.I g → w'.heap[g]? = w.heap[g]? := fun g hg => hI.ext.block g (hR.heap.ilt g hg) (hR.foot_apart hg)
 refine ⟨hO.size, (hM.keep hI.ext).mono (fun g hg => foot_none hg) (fun g hg => .inl hg), hO.nd, fun t => ?_, hI.heap, ⟨fun d c hd => (by cases hd), fun d c hd => (by cases hd), fun d e c c' hd => (by cases hd)⟩, ?_,
  fun k x hk => (hI.gnew k x hk).elim (fun ⟨y, hy⟩ => hO.gnew k y hy) (fun h1 => .inr (Nat.le_trans hO.ext.le.nm h1)),
  fun g x hk => (hI.onew g x hk).elim (fun ⟨y, hy⟩ => hO.onew g y hy) (fun h1 => .inr (Nat.le_trans hO.ext.size h1)),
  fun g hs => (hB.1 g hs).elim, fun g hs => (hB.1 g hs).elim, fun _ _ _ hs => (hB.1 _ hs).elim⟩
 ·have := keepV_TR (hO.tmp t) himm hI.ext.le
  have e : keepV ((plainS s0).t t) = (plainS s0).t t := keepV_keepV _
  rw [e] at this; exact this
 ·have h := hR.ext.trans hI.ext
  exact ⟨h.os, h.tape, h.output, h.size, h.block, h.le, h.inew, fun g hg => h.fnew g (foot_none hg)⟩
theorem plainS_plainS (s : St) : plainS (plainS s) = plainS s := by simp [plainS, keepV_keepV]
theorem SR.newBlocks {I' : Nat → Prop} (h : SR B n cx s σ a w) (hN : Newer w w') (hI : MoreI cx.I I' w w') : SR B n { cx with I := I' } s σ a w' :=
 h.grow ⟨hI.1, Nat.le_refl _, fun _ _ => rfl, fun _ _ => rfl⟩ rfl (fun g hg => hI.2 g hg) hN.os hN.tape hN.output hN.size hN.block
def roundS (N : Hp → Prop) (X : Exit → Hp → Prop) : Exit → St → Hp → Prop
  | .normal, _, σ => N σ
  | .ret, _, σ => X .ret σ
  | .exit id, _, σ => X (.exit id) σ
  | _, _, _ => False
def jumpOf : Exit → Option Code
  | .ret => some .ret
  | .exit id => some (.exit id)
  | _ => none
structure Free (B : Base) (cx : Cx) (σ : Hp) (l : Nat → Option (List V)) (w : World) (r : Nat) (o : Obj) : Prop where
  at' : w.heap[r]? = some o
  new : B.w.heap.size ≤ r
  foot : ¬ foot cx σ l r
  imm : ¬ cx.I r
theorem Free.keep {l l' : Nat → Option (List V)} {r : Nat} {o : Obj} (h : Free B cx σ l w r o) (hx : Ext cx (Abs.foot cx σ l) w cx' (Abs.foot cx' σ' l') w') : Free B cx' σ' l' w' r o :=
 have hlt := lt_of_block h.at'
 ⟨(hx.block r hlt h.foot).trans h.at', h.new, fun hf => (hx.fnew r hf).elim h.foot (fun hs => by omega), fun hi => (hx.inew r hi).elim h.imm (fun h6 => h6.elim h.foot (fun hs => by omega))⟩
theorem Free.bare {l : Nat → Option (List V)} {r : Nat} {o : Obj} (h : Free B cx σ l w r o) : Free B cx σ (fun _ => none) w r o := ⟨h.at', h.new, fun hf => h.foot (foot_none hf), h.imm⟩
theorem Free.newBlocks {l : Nat → Option (List V)} {r : Nat} {o : Obj} {I' : Nat → Prop} (h : Free B cx σ l w r o) (hN : Newer w w') (hI : MoreI cx.I I' w w') : Free B { cx with I := I' } σ l w' r o :=
 have hlt := lt_of_block h.at'
 ⟨(hN.block r hlt).trans h.at', h.new, h.foot, fun hi => (hI.2 r hi).elim h.imm (fun hs => by omega)⟩
theorem Free.put {l : Nat → Option (List V)} {r q : Nat} {o o' : Obj} (h : Free B cx σ l w r o) (hne : r ≠ q) : Free B cx σ l (w.putObj q o') r o := ⟨(World.putObj_heap_other hne).trans h.at', h.new, h.foot, h.imm⟩
theorem Free.set {l : Nat → Option (List V)} {r : Nat} {o : Obj} (o' : Obj) (h : Free B cx σ l w r o) : Free B cx σ l (w.putObj r o') r o' := ⟨World.putObj_heap_same (lt_of_block h.at'), h.new, h.foot, h.imm⟩
theorem SR.turnF {r : Nat} {o o' : Obj} (hB : B.plain) (h : SR B n cx s σ a w) (hf : Free B cx σ s.l w r o) (hno : ∀ ds, o ≠ .deferred ds) : SR B n cx s σ a (w.putObj r o') :=
 h.turn hB hf.new hf.foot hf.imm ⟨h.defers.1, fun d hd => by
  obtain ⟨D, h1, h2, h3, h4, h5⟩ := h.defers.2 d hd
  exact ⟨D, h1, h2, (World.putObj_heap_other (fun e => by rw [e, hf.at'] at h3; injection h3 with h3; exact hno _ h3)).trans h3, h4, h5⟩⟩
theorem SR.pushMark {D : Nat} (hB : B.plain) (h : SR B n cx s σ a w) (hf : Free B cx σ s.l w D (.deferred (some []))) (hm : ∀ d ∈ a.defers, d ≠ { target := .collected D, args := #[] }) : SR B n cx s σ { a with defers := { target := .collected D, args := #[] } :: a.defers } w :=
 ⟨h.size, ⟨List.pairwise_cons.2 ⟨fun x hx e => hm x hx e.symm, h.defers.1⟩, fun d hd => by
  rcases List.mem_cons.1 hd with rfl | hd
  ·exact ⟨D, rfl, hf.new, hf.at', hf.foot, hf.imm⟩
  ·exact h.defers.2 d hd⟩, fun e => (by rw [hB.2] at e; cases e), h.tmp, h.heap, h.box, h.ext, h.gnew, h.onew, h.stab, h.stN, h.stS⟩
variable {T : Tab} {Q : Exit → St → Hp → Prop}
theorem AW.rangeFunc {g : Operand} {p : Tmp} {assign body : Code} {f : FuncId} {caps xs : List V} (hg : ev s g = .fn (.func f) [] caps) (hit : Iter P f caps xs) (himm : ∀ v : V, v ∈ caps → Imm v) (hp : p < n)
    (I : Nat → Hp → Prop) (X : Exit → Hp → Prop) (h0 : I 0 σ)
    (hround : ∀ (r : Nat) (i : Nat) (v : V) (σ' : Hp), xs[i]? = some v → I i σ' →
      AWR P n (some r) assign (fun e s1 σ1 => e = .normal ∧ AWR P n (some r) body (roundS (I (i + 1)) X) s1 σ1) ((plainS s).put p v) σ')
    (hdone : ∀ σ', I xs.length σ' → Q .normal (plainS s) σ') (hret : ∀ σ', X .ret σ' → Q .ret (plainS s) σ') (hexit : ∀ id σ', X (.exit id) σ' → Q (.exit id) (plainS s) σ') :
    AW P n (.rangeFunc g #[p] assign body) Q s σ := fun B cx a w hB hsd h => by
  refine wpIn_wide (n := 0) |>.1 (wpIn_rangeFunc fun fn _ => ?_)
  have hgv := h.tr g
  rw [hg] at hgv
  obtain ⟨xs0, ys, hav, hys⟩ : ∃ xs0 ys : List Value, a.eval g = .func (.func f) ⟨xs0⟩ ⟨ys⟩ ∧ xs0 = [] ∧ VAs w cx caps ys := by
    generalize a.eval g = gv at hgv
    cases hgv with
    | v hgv =>
      cases hgv with
      | @fn _ _ _ xs1 ys1 hn h1 hm h2 => exact ⟨xs1, ys1, rfl, List.eq_nil_of_length_eq_zero hn.symm, hm, h2⟩
  obtain ⟨rfl, hys⟩ := hys
  have hBw : B.w.heap.size ≤ w.heap.size := h.ext.size
  obtain ⟨rec, hrec⟩ : ∃ rec : LoopState → Option Code → Loop, rec = fun st pe => { state := st, pending := pe, fn, tmps := a.tmps, params := #[p], assign, body, defers := w.heap.size } := ⟨_, rfl⟩
  obtain ⟨W1, hW1⟩ : ∃ W1, (w.alloc (.deferred (some []))).alloc (.loop (rec .ready none)) = W1 := ⟨_, rfl⟩
  have hsz1 : W1.heap.size = w.heap.size + 2 := by rw [← hW1]; simp
  have hL1 : W1.heap[w.heap.size + 1]? = some (.loop (rec .ready none)) := by
    rw [← hW1]; have := World.alloc_heap_new (w.alloc (.deferred (some []))) (.loop (rec .ready none)); rwa [World.size_alloc] at this
  have hK1 : W1.heap[w.heap.size]? = some (.deferred (some [])) := by
    rw [← hW1]; exact (Below.heap_alloc _ _ _ (by simp)).trans (World.alloc_heap_new w _)
  have hN1 : Newer w W1 := by
    refine ⟨by rw [← hW1]; rfl, by rw [← hW1]; rfl, ⟨by rw [← hW1]; rfl, fun _ => by rw [← hW1]; exact Nat.le_refl _⟩, by omega, fun g hg => ?_⟩
    rw [← hW1]; exact (Below.heap_alloc _ _ _ (by simp; omega)).trans (Below.heap_alloc _ _ _ hg)
  have h1 : SR B n cx s σ a W1 := h.newBlocks hN1 ⟨fun _ h => h, fun _ h => .inl h⟩
  have h1b : SR B n cx (plainS s) σ a W1 := by
    refine ⟨h1.size, h1.defers.mono (fun g hg => foot_none hg) (fun g hg => .inl hg), h1.nd, fun t => keepV_TR (h1.tmp t) (fun _ _ => rfl) (.refl _), h1.heap, ⟨fun d c hd => (by cases hd), fun d c hd => (by cases hd), fun d e c c' hd => (by cases hd)⟩, ?_, h1.gnew, h1.onew, h1.stab, h1.stN, fun d c hd => (by cases hd)⟩
    have he := h1.ext
    exact ⟨he.os, he.tape, he.output, he.size, he.block, he.le, he.inew, fun g hg => he.fnew g (foot_none hg)⟩
  have nof : ∀ r, w.heap.size ≤ r → ¬ foot cx σ (fun _ => none) r := fun r hr hf => by
    have := h.foot_lt (foot_none (l := s.l) hf); omega
  have noI : ∀ r, w.heap.size ≤ r → ¬ cx.I r := fun r hr hi => by have := h.heap.ilt r hi; omega
  have hFL : Free B cx σ (fun _ => none) W1 (w.heap.size + 1) (.loop (rec .ready none)) := ⟨hL1, by omega, nof _ (by omega), noI _ (by omega)⟩
  have hFD : Free B cx σ (fun _ => none) W1 w.heap.size (.deferred (some [])) := ⟨hK1, by omega, nof _ (by omega), noI _ (by omega)⟩
  have hmk : ∀ d ∈ a.defers, d ≠ { target := .collected w.heap.size, args := #[] } := fun d hd e => by
    obtain ⟨D, k1, _, k3, _⟩ := h.defers.2 d hd
    rw [k1] at e
    injection e with e1
    injection e1 with e1
    have := lt_of_block k3
    omega
  refine ⟨w.heap.size + 1, [{ target := .collected w.heap.size, args := #[] }], W1, { target := .fn (.func f) ⟨ys⟩, args := #[.func (.yield (w.heap.size + 1)) #[] #[]] }, W1, f,
    #[.func (.yield (w.heap.size + 1)) #[] #[]] ++ ⟨ys⟩, W1, ?_, ?_, fun _ _ => trivial, ?_, fun e => (by cases e), ?_⟩
  · rw [← hW1, hrec]; exact run_enterLoop_outer _ _ _ _ _
  · simp only [resolve, hav]
    simp [go_sem]
  · simp [invoke, go_sem, hit.1]
  · have hVA : VAs W1 (Cx.im cx.I) caps ys := ⟨hys.1, fun i v x hv hx => ((hys.2 i v x hv hx).keep (fun g hg => hN1.block g (h.heap.ilt g hg)) (.refl _)).toIm (himm v (List.mem_of_getElem? hv))⟩
    refine (hit.2 (w.heap.size + 1) W1 cx.I ys
      (fun i I' W => ∃ cx' σ', cx'.I = I' ∧ SR B n cx' (plainS s) σ' a W ∧ I i σ' ∧ Free B cx' σ' (fun _ => none) W (w.heap.size + 1) (.loop (rec .ready none)) ∧ Free B cx' σ' (fun _ => none) W w.heap.size (.deferred (some [])))
      (fun W => ∃ e c cx' σ', jumpOf e = some c ∧ X e σ' ∧ SR B n cx' (plainS s) σ' a W ∧ Free B cx' σ' (fun _ => none) W (w.heap.size + 1) (.loop (rec .done (some c))) ∧ Free B cx' σ' (fun _ => none) W w.heap.size (.deferred (some [])))
      hVA ?_ ?_ ?_ ?_ ⟨cx, σ, rfl, h1b, h0, hFL, hFD⟩).mono ?_
    · rintro i I' W ⟨cx', σ', rfl, k1, _⟩ g hg
      exact k1.heap.ilt g hg
    · rintro i I' W I'' W' ⟨cx', σ', rfl, k1, k2, k3, k4⟩ hN hM
      exact ⟨{ cx' with I := I'' }, σ', rfl, k1.newBlocks hN hM, k2, k3.newBlocks hN hM, k4.newBlocks hN hM⟩
    · rintro I' W I'' W' ⟨e, c, cx', σ', k0, k2, k1, k3, k4⟩ hN _
      have hM : MoreI cx'.I cx'.I W W' := ⟨fun _ h => h, fun _ h => .inl h⟩
      exact ⟨e, c, cx', σ', k0, k2, k1.newBlocks hN hM, k3.newBlocks hN hM, k4.newBlocks hN hM⟩
    · -- one round
      rintro i I' W v x ⟨cx', σ', rfl, k1, k2, k3, k4⟩ hv hx
      have hx' : VR W cx' v x := hx.ofIm (fun _ h => h)
      have hy := run_yield (P := P) (args := #[x]) k3.at' (by rw [hrec]; rfl)
      rw [hrec] at hy
      refine ⟨fn, _, assign, body, hy, roundIn_of_wpIn trivial ?_⟩
      have e0 : ((#[p].zip #[x]).foldl (fun tmps (t, a) => tmps.setIfInBounds t a) a.tmps) = a.tmps.setIfInBounds p x := by simp
      rw [e0]
      have r0 : SR B n cx' (plainS s) σ' { tmps := a.tmps, defers := [] } W := ⟨k1.size, Marks.nil, fun _ => rfl, k1.tmp, k1.heap, k1.box, k1.ext, k1.gnew, k1.onew, k1.stab, k1.stN, k1.stS⟩
      have r1 : SR (Base.rnd cx' σ' (plainS s).l W) n cx' ((plainS s).put p v) σ' { tmps := a.tmps.setIfInBounds p x, defers := [] } W := (r0.rebase rfl).put hp (.v hx')
      refine wpIn_mono (hround (w.heap.size + 1) i v σ' hv k2 _ _ _ _ (fun g hs => hs) rfl r1) ?_
      rintro e a1 w1 ⟨cx1, s1, σ1, r2, rfl, hbody⟩
      have f3 : Free B cx1 σ1 s1.l w1 (w.heap.size + 1) (.loop (rec .ready none)) := k3.keep r2.ext
      have f4 : Free B cx1 σ1 s1.l w1 w.heap.size (.deferred (some [])) := k4.keep r2.ext
      have o1 : SR B n cx1 (plainS (plainS s)) σ1 a w1 := k1.outer hB r2
      rw [plainS_plainS] at o1
      have r3 : SR B n cx1 s1 σ1 a1 w1 := r0.compose hB r2
      refine ⟨_, run_beginRound f3.at' (by rw [hrec]), ?_⟩
      have r4 := r3.turnF (o' := .loop { rec .ready none with state := .busy }) hB f3 (fun ds e => by cases e)
      have f5 := f3.set (.loop { rec .ready none with state := .busy })
      have f6 : Free B cx1 σ1 s1.l (w1.putObj (w.heap.size + 1) (.loop { rec .ready none with state := .busy })) w.heap.size (.deferred (some [])) := f4.put (by omega)
      have o2 : SR B n cx1 (plainS s) σ1 a (w1.putObj (w.heap.size + 1) (.loop { rec .ready none with state := .busy })) := o1.turnF hB f3.bare (fun ds e => by cases e)
      have hd1 : a1.defers = [] := r2.nd rfl
      have m1 := k1.defers.keep r2.ext
      have m2 : Marks cx1 (foot cx1 σ1 s1.l) B.w (w1.putObj (w.heap.size + 1) (.loop { rec .ready none with state := .busy })) a.defers := ⟨m1.1, fun d hd => by
        obtain ⟨D, h1, h2, h3, h4, h5⟩ := m1.2 d hd
        exact ⟨D, h1, h2, (World.putObj_heap_other (fun e => by rw [e, f3.at'] at h3; injection h3 with h3; cases h3)).trans h3, h4, h5⟩⟩
      have r5 := r4.rebase hd1
      -- the outer frame beside the round's boxes
      refine wpIn_mono (hbody _ _ _ _ (fun g hs => hs) rfl r5) ?_
      rintro e2 a2 w3 ⟨cx2, s2, σ2, r6, hq⟩
      have g3 := f5.keep r6.ext
      have g4 := f6.keep r6.ext
      have o3 : SR B n cx2 (plainS s) σ2 a w3 := by
        exact o2.outer2 hB r4 m2 r6
      have hImm : ∀ g, cx'.I g → cx2.I g ∧ w3.heap[g]? = W.heap[g]? := fun g hg => by
        have t1 : cx1.I g := r2.ext.le.I g hg
        have b1 : w1.heap[g]? = W.heap[g]? := r2.ext.block g (k1.heap.ilt g hg) (k1.foot_apart hg)
        have ne : g ≠ w.heap.size + 1 := fun e => k3.imm (by rw [← e]; exact hg)
        have b2 := (World.putObj_heap_other (w := w1) (o := .loop { rec .ready none with state := .busy }) ne).trans b1
        exact ⟨r6.ext.le.I g t1, (r6.ext.block g (r4.heap.ilt g t1) (r4.foot_apart t1)).trans b2⟩
      have fin : ∀ jump : Option Code, (Instr.endRound (w.heap.size + 1) jump).run P w3 = .ok (.bool jump.isNone) (w3.putObj (w.heap.size + 1) (.loop (rec (if jump.isNone then .ready else .done) jump))) := fun jump => by
        have := run_endRound (P := P) jump g3.at'
        rw [hrec] at this ⊢
        exact this
      have done : ∀ st pe, SR B n cx2 (plainS s) σ2 a (w3.putObj (w.heap.size + 1) (.loop (rec st pe))) ∧ Free B cx2 σ2 (fun _ => none) (w3.putObj (w.heap.size + 1) (.loop (rec st pe))) (w.heap.size + 1) (.loop (rec st pe)) ∧ Free B cx2 σ2 (fun _ => none) (w3.putObj (w.heap.size + 1) (.loop (rec st pe))) w.heap.size (.deferred (some [])) := fun st pe =>
        ⟨o3.turnF hB g3.bare (fun ds e => by cases e), g3.bare.set _, g4.bare.put (by omega)⟩
      cases e2 with
      | normal =>
        obtain ⟨d1, d2, d3⟩ := done .ready none
        refine ⟨_, _, fin none, .inl ⟨rfl, cx2.I, ⟨cx2, σ2, rfl, d1, hq, d2, d3⟩, fun g hg => ⟨(hImm g hg).1, ?_⟩⟩⟩
        exact (World.putObj_heap_other (fun e => k3.imm (by rw [← e]; exact hg))).trans (hImm g hg).2
      | ret =>
        obtain ⟨d1, d2, d3⟩ := done .done (some .ret)
        exact ⟨_, _, fin (some .ret), .inr ⟨rfl, .ret, .ret, cx2, σ2, rfl, hq, d1, d2, d3⟩⟩
      | exit id =>
        obtain ⟨d1, d2, d3⟩ := done .done (some (.exit id))
        exact ⟨_, _, fin (some (.exit id)), .inr ⟨rfl, .exit id, .exit id, cx2, σ2, rfl, hq, d1, d2, d3⟩⟩
      | goto t => exact hq.elim
      | panic c => exact hq.elim
      | outgrown => exact hq.elim
    · -- behind the iterator
      have last : ∀ {cx' : Cx} {σ' : Hp} {W : World} {st : LoopState} {pe : Option Code}, st ≠ .busy → SR B n cx' (plainS s) σ' a W → Free B cx' σ' (fun _ => none) W (w.heap.size + 1) (.loop (rec st pe)) → Free B cx' σ' (fun _ => none) W w.heap.size (.deferred (some [])) →
          ∃ W', (Instr.endLoop (w.heap.size + 1)).run P W = .ok pe W' ∧ SR B n cx' (plainS s) σ' { a with defers := { target := .collected w.heap.size, args := #[] } :: a.defers } W' := fun {cx' σ' W st pe} hst k1 k3 k4 => by
        have := run_endLoop (P := P) k3.at' (by rw [hrec]; exact hst)
        refine ⟨_, by rw [hrec] at this; exact this, ?_⟩
        exact (k1.turnF hB k3 (fun ds e => by cases e)).pushMark hB (k4.put (by omega)) hmk
      rintro e W2 ⟨⟨v, rfl⟩, (⟨I', cx', σ', _, k1, k2, k3, k4⟩ | ⟨e, c, cx', σ', k0, k2, k1, k3, k4⟩)⟩
      · obtain ⟨W', m1, m2⟩ := last (by decide) k1 k3 k4
        exact ⟨none, W', m1, ⟨cx', _, σ', m2, hdone σ' k2⟩⟩
      · obtain ⟨W', m1, m2⟩ := last (by decide) k1 k3 k4
        refine ⟨some c, W', m1, ?_⟩
        cases e with
        | ret => injection k0 with k0; subst k0; exact wpIn_ret ⟨cx', _, σ', m2, hret σ' k2⟩
        | exit id => injection k0 with k0; subst k0; exact wpIn_exit ⟨cx', _, σ', m2, hexit id σ' k2⟩
        | _ => cases k0
end
end Go.Abs
namespace Go.Abs
open Go
section
variable {P : Program}
variable [Mode]
theorem ACalls.bare {f : FuncId} {args : List V} {R : V → Hp → Prop} {R' : V → Prop} (h : ACalls P f args Hp.empty R) (hr : ∀ v σ', R v σ' → R' v) : PCalls P f args R' :=
 ⟨h.1, fun cx w xs hH ha => (h.2 cx w xs hH ha).mono fun e w' ⟨v, r, cx', σ', h1, h2, h3, h4⟩ =>
  ⟨v, r, cx', Hp.empty, h1, h2, ⟨h3.heap.sub (fun _ _ h => by cases h) (fun _ _ h => by cases h), ⟨h3.ext.os, h3.ext.tape, h3.ext.output, h3.ext.size, h3.ext.block, h3.ext.le, h3.ext.inew, fun g hg => (own_empty hg).elim⟩, fun k x hk => (by cases hk), fun g x hx => (by cases hx)⟩, rfl, hr v σ' h4⟩⟩
end
end Go.Abs
namespace Go.Abs
open Go
section
variable {P : Program} {σ σ0 σ1 : Hp} {cx cx' : Cx} {w w' : World}
variable [Mode]
structure Hp.Le (σ0 σ : Hp) : Prop where
  obj : ∀ g c, σ0.obj g = some c → σ.obj g = some c
  gr : ∀ k x, σ0.gr k = some x → σ.gr k = some x
theorem Hp.Le.refl (σ : Hp) : Hp.Le σ σ := ⟨fun _ _ h => h, fun _ _ h => h⟩
theorem Hp.Le.empty (σ : Hp) : Hp.Le Hp.empty σ := ⟨fun _ _ h => (by cases h), fun _ _ h => (by cases h)⟩
theorem Hp.Le.own {g : Nat} (h : Hp.Le σ0 σ) (hg : σ0.own cx g) : σ.own cx g := own_sub h.obj h.gr hg
theorem over_obj {g : Nat} {c : List V} (h : (σ1.over σ σ0).obj g = some c) : σ1.obj g = some c ∨ (σ1.obj g = none ∧ σ0.obj g = none ∧ σ.obj g = some c) := by
 simp only [Hp.over] at h
 split at h
 ·exact .inl (by rename_i e; rw [e, h])
 ·rename_i e
  split at h
  ·cases h
  ·exact .inr ⟨e, ‹_›, h⟩
theorem over_gr {k : Nat} {x : (TypeId × Nat) × List (List V)} (h : (σ1.over σ σ0).gr k = some x) : σ1.gr k = some x ∨ (σ1.gr k = none ∧ σ0.gr k = none ∧ σ.gr k = some x) := by
 simp only [Hp.over] at h
 split at h
 ·exact .inl (by rename_i e; rw [e, h])
 ·rename_i e
  split at h
  ·cases h
  ·exact .inr ⟨e, ‹_›, h⟩
theorem HR.beside_gr (hH : HR cx σ w) (hs : Hp.Le σ0 σ) {k g : Nat} {x : (TypeId × Nat) × List (List V)} (h0 : σ0.gr k = none) (hk : σ.gr k = some x) (hg : (cx.M k).ownBlock = some g) : ¬ σ0.own cx g := by
 rintro (⟨c, hc⟩ | ⟨j, y, hj, hb⟩)
 ·exact hH.mix k x g c hk (hs.obj g c hc) hg
 ·have := hH.two k j x y g hk (hs.gr j y hj) hg hb
  subst this
  rw [h0] at hj; cases hj
theorem HR.beside_obj (hH : HR cx σ w) (hs : Hp.Le σ0 σ) {g : Nat} {c : List V} (h0 : σ0.obj g = none) (hg : σ.obj g = some c) : ¬ σ0.own cx g := by
 rintro (⟨c', hc⟩ | ⟨j, y, hj, hb⟩)
 ·rw [h0] at hc; cases hc
 ·exact hH.mix j y g c (hs.gr j y hj) hg hb
theorem Left.frame (hH : HR cx σ w) (hs : Hp.Le σ0 σ) (h : Left cx σ0 w cx' σ1 w') : Left cx σ w cx' (σ1.over σ σ0) w' := by
 have himm : ∀ g, cx.I g → w'.heap[g]? = w.heap[g]? := fun g hg => h.ext.block g (hH.ilt g hg) (fun ho => hH.apart g (hs.own ho) hg)
 have hle := h.ext.le
 have hfar : ∀ g, σ.own cx g → ¬ σ0.own cx g → ¬ σ1.own cx' g := fun g h1 h2 h3 => (h.ext.fnew g h3).elim h2 (fun h4 => by have := hH.own_lt h1; omega)
 have kM : ∀ k x, σ.gr k = some x → cx'.M k = cx.M k := fun k x hk => hle.M k (hH.gr k x.1 x.2 hk).1
 have hr : HR cx' (σ1.over σ σ0) w' := {
  obj := fun g c hc => by
   rcases over_obj hc with h1 | ⟨_, h0, h1⟩
   ·exact h.heap.obj g c h1
   ·obtain ⟨o, e1, e2⟩ := hH.obj g c h1
    exact ⟨o, (h.ext.block g (lt_of_block e1) (hH.beside_obj hs h0 h1)).trans e1, e2.keep himm hle⟩
  gr := fun k T es hk => by
   rcases over_gr hk with h1 | ⟨_, h0, h1⟩
   ·exact h.heap.gr k T es h1
   ·obtain ⟨a1, a0, a2, xs, a3, a4⟩ := hH.gr k T es h1
    refine ⟨Nat.lt_of_lt_of_le a1 hle.nm, by rw [hle.Z k a1]; exact a0, by rw [hle.Z k a1]; exact a2, xs, ?_, a4.keep himm hle⟩
    rw [hle.Z k a1, hle.M k a1]
    refine ⟨a3.1, ?_⟩
    rcases a3.2 with h5 | ⟨g, cap, cur, e1, e2, e3, e4⟩
    ·exact .inl h5
    ·exact .inr ⟨g, cap, cur, e1, e2, (h.ext.block g (lt_of_block e3) (hH.beside_gr hs h0 h1 (by rw [e1]; rfl))).trans e3, e4⟩
  two := fun k k' x x' g hk hk' h1 h2 => by
   rcases over_gr hk with a | ⟨_, a0, a⟩
   ·rcases over_gr hk' with b | ⟨_, b0, b⟩
    ·exact h.heap.two k k' x x' g a b h1 h2
    ·rw [kM k' x' b] at h2
     exact (hfar g (.inr ⟨k', x', b, h2⟩) (hH.beside_gr hs b0 b h2) (.inr ⟨k, x, a, h1⟩)).elim
   ·rw [kM k x a] at h1
    rcases over_gr hk' with b | ⟨_, b0, b⟩
    ·exact (hfar g (.inr ⟨k, x, a, h1⟩) (hH.beside_gr hs a0 a h1) (.inr ⟨k', x', b, h2⟩)).elim
    ·rw [kM k' x' b] at h2
     exact hH.two k k' x x' g a b h1 h2
  mix := fun k x g c hk hc h1 => by
   rcases over_gr hk with a | ⟨_, a0, a⟩
   ·rcases over_obj hc with b | ⟨_, b0, b⟩
    ·exact h.heap.mix k x g c a b h1
    ·exact hfar g (.inl ⟨c, b⟩) (hH.beside_obj hs b0 b) (.inr ⟨k, x, a, h1⟩)
   ·rw [kM k x a] at h1
    rcases over_obj hc with b | ⟨_, b0, b⟩
    ·exact hfar g (.inr ⟨k, x, a, h1⟩) (hH.beside_gr hs a0 a h1) (.inl ⟨c, b⟩)
    ·exact hH.mix k x g c a b h1
  apart := fun g hg hi => by
   have rest : ∀ g, σ.own cx g → ¬ σ0.own cx g → ¬ cx'.I g := fun g h1 h2 h3 => by
    rcases h.ext.inew g h3 with h4 | h4 | h4
    ·exact hH.apart g h1 h4
    ·exact h2 h4
    ·have := hH.own_lt h1; omega
   rcases hg with ⟨c, hc⟩ | ⟨k, x, hk, hb⟩
   ·rcases over_obj hc with b | ⟨_, b0, b⟩
    ·exact h.heap.apart g (.inl ⟨c, b⟩) hi
    ·exact rest g (.inl ⟨c, b⟩) (hH.beside_obj hs b0 b) hi
   ·rcases over_gr hk with a | ⟨_, a0, a⟩
    ·exact h.heap.apart g (.inr ⟨k, x, a, hb⟩) hi
    ·rw [kM k x a] at hb
     exact rest g (.inr ⟨k, x, a, hb⟩) (hH.beside_gr hs a0 a hb) hi
  ilt := h.heap.ilt }
 refine ⟨hr, ⟨h.ext.os, h.ext.tape, h.ext.output, h.ext.size, fun g hg hf => h.ext.block g hg (fun ho => hf (hs.own ho)), hle, fun g hg => (h.ext.inew g hg).imp id (Or.imp hs.own id), fun g hg => ?_⟩, fun k x hk => ?_, fun g x hg => ?_⟩
 ·rcases hg with ⟨c, hc⟩ | ⟨k, x, hk, hb⟩
  ·rcases over_obj hc with b | ⟨_, b0, b⟩
   ·exact (h.ext.fnew g (.inl ⟨c, b⟩)).imp hs.own id
   ·exact .inl (.inl ⟨c, b⟩)
  ·rcases over_gr hk with a | ⟨_, a0, a⟩
   ·exact (h.ext.fnew g (.inr ⟨k, x, a, hb⟩)).imp hs.own id
   ·rw [kM k x a] at hb
    exact .inl (.inr ⟨k, x, a, hb⟩)
 ·rcases over_gr hk with a | ⟨_, a0, a⟩
  ·exact (h.gnew k x a).imp (fun ⟨y, hy⟩ => ⟨y, hs.gr k y hy⟩) id
  ·exact .inl ⟨x, a⟩
 ·rcases over_obj hg with b | ⟨_, b0, b⟩
  ·exact (h.onew g x b).imp (fun ⟨y, hy⟩ => ⟨y, hs.obj g y hy⟩) id
  ·exact .inl ⟨x, b⟩
structure Hp.Fresh (σ1 σ0 σ : Hp) : Prop where
  obj : ∀ g c, σ1.obj g = some c → σ0.obj g = none → σ.obj g = none
  gr : ∀ k x, σ1.gr k = some x → σ0.gr k = none → σ.gr k = none
theorem ACalls.frame {f : FuncId} {args : List V} {R : V → Hp → Prop} (h : ACalls P f args σ0 R) (hs : Hp.Le σ0 σ) : ACalls P f args σ (fun v σ' => ∃ σ1, R v σ1 ∧ Hp.Fresh σ1 σ0 σ ∧ σ' = σ1.over σ σ0) :=
 ⟨h.1, fun cx w xs hH ha => (h.2 cx w xs (hH.sub hs.obj hs.gr) ha).mono fun e w' ⟨v, r, cx', σ1, h1, h2, h3, h4⟩ =>
  ⟨v, r, cx', _, h1, h2, h3.frame hH hs, σ1, h4, ⟨fun g c hc h0 => by
   rcases h3.onew g c hc with ⟨y, hy⟩ | hg
   ·rw [h0] at hy; cases hy
   ·cases e : σ.obj g with
    | none => rfl
    | some y => have := hH.own_lt (.inl ⟨y, e⟩); omega, fun k x hk h0 => by
   rcases h3.gnew k x hk with ⟨y, hy⟩ | hg
   ·rw [h0] at hy; cases hy
   ·cases e : σ.gr k with
    | none => rfl
    | some y => have := (hH.gr k y.1 y.2 e).1; omega⟩, rfl⟩⟩
end
end Go.Abs
namespace Go.Abs
open Go
section
variable {P : Program} {B : Base} {n : Nat} {cx : Cx} {s : St} {σ : Hp} {a : Act} {w : World} {Q : Exit → St → Hp → Prop}
variable [Mode]
def ipV (g : Nat) (cells : List V) : V → V
  | .c (.pointer (some ⟨b, o, none⟩)) => if b = g then .ip [cells] 0 o else .c (.pointer (some ⟨b, o, none⟩))
  | v => v
def St.ip (s : St) (g : Nat) (cells : List V) : St := ⟨fun t => ipV g cells (s.t t), s.l⟩
@[simp] theorem St.ip_t (s : St) (g : Nat) (cells : List V) (t : Nat) : (s.ip g cells).t t = ipV g cells (s.t t) := rfl
@[simp] theorem St.ip_l (s : St) (g : Nat) (cells : List V) (d : Nat) : (s.ip g cells).l d = s.l d := rfl
theorem VR.ip_off {es : List (List V)} {g o off : Nat} (h : VR w cx (.ip es 0 o) (.pointer (some ⟨g, o, none⟩))) : VR w cx (.ip es 0 off) (.pointer (some ⟨g, off, none⟩)) := by
  generalize hx : (.pointer (some ⟨g, o, none⟩) : Value) = x at h
  cases h with
  | @ip _ sz b o' _ _ f hI hi hlen hc hr h1 =>
    injection hx with hx; injection hx with hx; injection hx with hb ho
    subst hb
    have ho' : o' = 0 := by omega
    subst ho'
    have := VR.ip (w := w) (cx := cx) (es := es) (sz := sz) (b := g) (o := 0) (i := 0) (off := off) f hI hi hlen hc hr h1
    simpa using this
def bxV (d : Nat) (cells : List V) : V → V
  | .lp e o => if e = d then .ip [cells] 0 o else .lp e o
  | v => v
def St.bx (s : St) (d : Nat) (cells : List V) : St := ⟨fun t => bxV d cells (s.t t), fun e => if e = d then none else s.l e⟩
@[simp] theorem St.bx_t (s : St) (d : Nat) (cells : List V) (t : Nat) : (s.bx d cells).t t = bxV d cells (s.t t) := rfl
@[simp] theorem St.bx_l (s : St) (d : Nat) (cells : List V) (e : Nat) : (s.bx d cells).l e = if e = d then none else s.l e := rfl
theorem SR.hushBox (h : SR B n cx s σ a w) {d : Nat} {cells : List V} (hd : s.l d = some cells) (_hc : cells ≠ []) : SR B n (cx.addI (cx.L d)) (s.bx d cells) σ a w := by
 obtain ⟨T, cs, hb, hvs⟩ := h.box.box d cells hd
 obtain ⟨hai, hao⟩ := h.box.apart d cells hd
 have hle := cx.le_addI (cx.L d)
 have hH : HR (cx.addI (cx.L d)) σ w := h.heap.keep hle (fun _ => False) (fun _ h => h.elim) (fun _ h => h.elim) (fun g' (hg' : cx.I g' ∨ g' = cx.L d) ho => by
   rcases hg' with h1 | h1
   ·exact h.heap.apart g' ho h1
   ·exact hao (h1 ▸ ho)) (fun g' (hg' : cx.I g' ∨ g' = cx.L d) => by
   rcases hg' with h1 | h1
   ·exact h.heap.ilt g' h1
   ·rw [h1]; exact lt_of_block hb) (fun _ _ _ => rfl)
 have hip : VR w (cx.addI (cx.L d)) (.ip [cells] 0 0) (.pointer (some ⟨cx.L d, 0, none⟩)) := by
  have hvk := hvs.keep (w' := w) (cx' := cx.addI (cx.L d)) (fun _ _ => rfl) hle
  have := VR.ip (w := w) (cx := cx.addI (cx.L d)) (es := [cells]) (sz := cells.length) (b := cx.L d) (o := 0) (i := 0) (off := 0) (fun i j => cs.getD j undef) (.inr rfl) (by simp)
   (fun i e he => by
    rcases i with _ | i
    ·simp at he; rw [← he]
    ·simp at he)
   (fun i j hi hj => by
    have h0 : i = 0 := by simp at hi; exact hi
    subst h0
    have hjl : j < cs.length := by rw [← hvs.1]; exact hj
    simp [World.cell?, hb, List.getD, hjl])
   (fun i e j v he hv => by
    rcases i with _ | i
    ·simp at he; subst he
     have hjl : j < cs.length := by rw [← hvs.1]; exact (List.getElem?_eq_some_iff.1 hv).1
     exact hvk.2.2 j v _ hv (by simp [List.getD, hjl])
    ·simp at he)
   (fun i j hi hj => by
    have hjl : j < cs.length := by rw [← hvs.1]; exact hj
    exact hvs.2.1 _ (by simp only [List.getD, List.getElem?_eq_getElem hjl]; exact List.getElem_mem _))
  simpa using this
 have hl : ∀ e c, (s.bx d cells).l e = some c → e ≠ d ∧ s.l e = some c := fun e c he => by
  rw [St.bx_l] at he
  split at he
  ·cases he
  ·exact ⟨‹_›, he⟩
 have hfoot : ∀ g', foot (cx.addI (cx.L d)) σ (s.bx d cells).l g' → foot cx σ s.l g' := fun g' hf => by
  rcases hf with hf | ⟨e, c, he, e'⟩
  ·exact .inl hf
  ·exact .inr ⟨e, c, (hl e c he).2, e'⟩
 have hgo : foot cx σ s.l (cx.L d) := .inr ⟨d, cells, hd, rfl⟩
 refine ⟨h.size, h.defers.mono hfoot (fun g' hi => ?_), h.nd, fun t => ?_, hH, ?_, ?_, h.gnew, h.onew, h.stab, h.stN, fun e c he hs => h.stS e c (hl e c he).2 hs⟩
 ·rcases (show cx.I g' ∨ g' = cx.L d from hi) with hi | rfl
  ·exact .inl hi
  ·exact .inr hgo
 ·have ht := h.tmp t
  show TR w (cx.addI (cx.L d)) (bxV d cells (s.t t)) (a.tmps.getD t undef)
  generalize s.t t = v at ht
  generalize a.tmps.getD t undef = x at ht
  have keep : TR w (cx.addI (cx.L d)) v x := by
   cases ht with
   | v hv => exact .v (hv.keep (fun _ _ => rfl) hle)
   | lp e off => exact .lp (cx := cx.addI (cx.L d)) e off
   | junk => exact .junk _
  unfold bxV
  split
  ·rename_i e o
   split
   ·rename_i e'
    subst e'
    cases ht with
    | v hv => cases hv
    | lp => exact .v hip.ip_off
   ·exact keep
  ·exact keep
 ·refine ⟨fun e c he => ?_, fun e c he => ⟨fun hi => ?_, fun ho => (h.box.apart e c (hl e c he).2).2 ho⟩, fun e e' c c' he he' => h.box.inj e e' c c' (hl e c he).2 (hl e' c' he').2⟩
  ·obtain ⟨T, cs, h1, h2⟩ := h.box.box e c (hl e c he).2
   exact ⟨T, cs, h1, h2.keep (fun _ _ => rfl) hle⟩
  ·rcases (show cx.I (cx.L e) ∨ cx.L e = cx.L d from hi) with hi | hi
   ·exact (h.box.apart e c (hl e c he).2).1 hi
   ·exact (hl e c he).1 (h.box.inj e d c cells (hl e c he).2 hd hi)
 ·have he := h.ext
  refine ⟨he.os, he.tape, he.output, he.size, he.block, he.le.trans hle, fun g' hi => ?_, fun g' hf => he.fnew g' (hfoot g' hf)⟩
  rcases (show cx.I g' ∨ g' = cx.L d from hi) with hi | rfl
  ·exact he.inew g' hi
  ·rcases he.fnew _ hgo with h1 | h1
   ·exact .inr (.inl h1)
   ·exact .inr (.inr h1)
theorem AW.hushBox {c : Code} {d : Nat} {cells : List V} (hd : s.l d = some cells) (hc : cells ≠ []) (h : AW P n c Q (s.bx d cells) σ) : AW P n c Q s σ :=
 fun B cx a w h1 h2 h3 => h B (cx.addI (cx.L d)) a w h1 h2 (h3.hushBox hd hc)
end
end Go.Abs
namespace Go.Abs
open Go
section
variable {P : Program} {F : Fence} {m n : Nat} {r : Option Nat} {s : St} {σ : Hp} {Q : Exit → St → Hp → Prop}
variable [Mode]
theorem wpIn_loop_rel {c : Code} {a : Act} {w : World} {Q : Exit → Act → World → Prop} (I : Nat → Act → World → Prop) (h₀ : ∃ m, I m a w)
    (round : ∀ m a w, I m a w → c.wpIn F n P (Exit.then (fun a' w' => ∃ m', m' < m ∧ I m' a' w') Q) a w) : (Code.loop c).wpIn F n P Q a w := by
  intro b k cs hro hb hr
  have key : ∀ m a w, I m a w → ∃ e a' w', Q e a' w' ∧ ArrivesIn (Machine.fenced P F) P (lone (b.atR a (.code c :: .inLoop c :: k)) cs w) b k cs e a' w' := by
    intro m
    induction m using Nat.strongRecOn with
    | _ m ih =>
      intro a w hI
      obtain ⟨e, a₁, w₁, hq, harr⟩ := round m a w hI b (.inLoop c :: k) cs hro hb hr
      cases e with
      | normal =>
        obtain ⟨m', hlt, hI₁⟩ := hq
        obtain ⟨e₂, a₂, w₂, hq₂, harr₂⟩ := ih m' hlt a₁ w₁ hI₁
        exact ⟨e₂, a₂, w₂, hq₂, .of_steps (StepsIn.trans harr (.one (fenced_calm hb hr rfl) stepR_inLoop)) harr₂⟩
      | exit id => exact ⟨_, a₁, w₁, hq, .pass (x := .inLoop c) rfl (fun _ _ => .inl (by simp)) harr⟩
      | goto l => exact ⟨_, a₁, w₁, hq, .pass (x := .inLoop c) rfl (fun _ _ => .inl (by simp)) harr⟩
      | ret => exact ⟨_, a₁, w₁, hq, .pass (x := .inLoop c) rfl (fun _ _ => .inl (by simp)) harr⟩
      | panic ch => exact ⟨_, a₁, w₁, hq, .pass (x := .inLoop c) rfl (fun _ _ => .inl (by simp)) harr⟩
      | outgrown => exact ⟨_, a₁, w₁, hq, .pass (x := .inLoop c) rfl (fun _ _ => .inl (by simp)) harr⟩
  obtain ⟨m, hm⟩ := h₀
  obtain ⟨e, a', w', hq, harr⟩ := key m a w hm
  exact ⟨e, a', w', hq, .of_steps (.one (fenced_calm hb hr rfl) stepR_loop) harr⟩
theorem AWR.loop {c : Code} (I : Nat → St → Hp → Prop) (m : Nat) (h0 : I m s σ) (hr : ∀ m s σ, I m s σ → AWR P n r c (thenS (fun s' σ' => ∃ m', m' < m ∧ I m' s' σ') Q) s σ) : AWR P n r (.loop c) Q s σ :=
 fun B cx a w h1 h2 h3 => wpIn_loop_rel (fun m a w => ∃ cx s σ, SR B n cx s σ a w ∧ I m s σ) ⟨m, cx, s, σ, h3, h0⟩ fun m a w ⟨cx, s, σ, h4, h5⟩ =>
  wpIn_mono (hr m s σ h5 B cx a w h1 h2 h4) fun e a' w' ⟨cx', s', σ', h6, h7⟩ => by
   cases e with
   | normal => obtain ⟨m', hm, hI⟩ := h7; exact ⟨m', hm, cx', s', σ', h6, hI⟩
   | _ => exact ⟨cx', s', σ', h6, h7⟩
theorem AWR.seq_j {x y : Code} (J : St → Hp → Prop) (h : AWR P n r x (thenS J Q) s σ) (hy : ∀ s σ, J s σ → AWR P n r y Q s σ) : AWR P n r (.seq x y) Q s σ :=
 .seq (h.mono fun e s σ hq => by
  cases e with
  | normal => exact hy s σ hq
  | _ => exact hq)
end
end Go.Abs
namespace Go.Abs
open Go
variable [Mode]
omit [Mode] in
theorem VAs.consts {w : World} {cx : Cx} {vs xs : List Value} (h : VAs w cx (vs.map V.c) xs) : xs = vs := by
 obtain ⟨hl, h⟩ := h
 rw [List.length_map] at hl
 have key : ∀ x y, VR w cx (.c x) y → y = x := fun _ _ h => by cases h; rfl
 apply List.ext_getElem?
 intro i
 by_cases hi : i < vs.length
 ·have hx : i < xs.length := by rw [← hl]; exact hi
  have h1 : (vs.map V.c)[i]? = some (V.c vs[i]) := by rw [List.getElem?_map, List.getElem?_eq_getElem hi]; rfl
  have h2 := h i _ _ h1 (List.getElem?_eq_getElem hx)
  rw [List.getElem?_eq_getElem hi, List.getElem?_eq_getElem hx]
  rw [key _ _ h2]
 ·rw [List.getElem?_eq_none (by omega), List.getElem?_eq_none (by omega)]
theorem PCalls.ofSame {P : Program} {f : FuncId} {vs : List Value} {r : Value}
  (he : ∀ (xs : Array Value) (w : World), (callFunc f xs).run P w = .ok (.enter f xs) w)
  (h : ∀ w, Calls P f ⟨vs⟩ w (fun e w' => e = .returned r ∧ w' = w)) : PCalls P f (vs.map V.c) (fun v => v = .c r) :=
 ⟨he, fun cx w xs hH ha => by
  have hx := ha.consts
  subst hx
  exact (h w).mono fun e w' ⟨h1, h2⟩ => ⟨.c r, r, cx, Hp.empty, h1, .c r, by rw [h2]; exact ⟨hH, Ext.refl _ _ _, fun k x h => .inl ⟨x, h⟩, fun g x h => .inl ⟨x, h⟩⟩, rfl, rfl⟩⟩
end Go.Abs
namespace Go.Abs
open Go Go.Proofs
open Go.Sort hiding Below grow
open Go.Lib
theorem grow_of {W W' : World} (hos : W'.os = W.os) (ht : W'.tape = W.tape) (ho : W'.output = W.output) (hd : W.drawn ≤ W'.drawn) (hs : W.heap.size ≤ W'.heap.size) (hb : ∀ g, g < W.heap.size → W'.heap[g]? = W.heap[g]?) :
    ∃ q os', W' = Sort.grow (W.drewN q) os' := by
  refine ⟨W'.drawn - W.drawn, W'.heap.extract W.heap.size W'.heap.size, ?_⟩
  have hh : W'.heap = W.heap ++ W'.heap.extract W.heap.size W'.heap.size := by
    apply Array.ext_getElem?
    intro i
    by_cases hi : i < W.heap.size
    · rw [Array.getElem?_append_left hi, hb i hi]
    · rw [Array.getElem?_append_right (by omega), Array.getElem?_extract]
      by_cases h2 : i < W'.heap.size
      · rw [if_pos (by omega)]; congr 1; omega
      · rw [if_neg (by omega), Array.getElem?_eq_none (by omega)]
  have hdr : W.drawn + (W'.drawn - W.drawn) = W'.drawn := by omega
  cases W with
  | mk h t d o u =>
    cases W' with
    | mk h' t' d' o' u' =>
      simp only [Sort.grow, World.drewN] at *
      subst hos; subst ht; subst ho
      rw [← hh, hdr]
theorem calls_quiet {P : Program} {g : FuncId} {args : List V} {R : V → Prop} (h : @PCalls ⟨True⟩ P g args R) {cx : Cx} {W : World} {xs : List Value} (hH : HR cx Hp.empty W) (ha : VAs W cx args xs) :
  Calls P g ⟨xs⟩ W (fun e w' => ∃ v r cx', e = .returned r ∧ VR w' cx' v r ∧ R v ∧ ∃ q os', w' = Sort.grow (W.drewN q) os') := by
 letI : Mode := ⟨True⟩
 refine (h.2 cx W xs hH ha).mono fun e w' ⟨v, r, cx', σ', he, hv, hl, hs, hr⟩ => ?_
 exact ⟨v, r, cx', he, hv, hr, grow_of hl.ext.os hl.ext.tape hl.ext.output.1 (hl.ext.output.2 trivial) hl.ext.size fun g' hg' => hl.ext.block g' hg' own_empty⟩
section
variable {P : Program} {ρ : Go.Shelf.Ren} {α : Type}
structure El (w : World) (cx : Cx) (en : α → V) (S : α → Prop) where
  v : Value
  x : α
  one : v.oneCell' = true
  vr : VR w cx (en x) v
  ok : S x
theorem els_of {w : World} {cx : Cx} {en : α → V} {S : α → Prop} : ∀ (l : List α) (ys : List Value), VRs w cx (l.map en) ys → (∀ a ∈ l, S a) → ∃ d : List (El w cx en S), d.map (·.x) = l ∧ d.map (·.v) = ys
  | [], ys, h, _ => ⟨[], rfl, by rw [h.unnil]; rfl⟩
  | a :: l, ys, h, hS => by
    obtain ⟨y, zs, rfl, h1, h2, h3⟩ := h.uncons
    obtain ⟨d, e1, e2⟩ := els_of l zs h3 fun b hb => hS b (List.mem_cons_of_mem _ hb)
    exact ⟨⟨y, a, h1, h2, hS a List.mem_cons_self⟩ :: d, by simp [e1], by simp [e2]⟩
theorem els_VRs {w w' : World} {cx : Cx} {en : α → V} {S : α → Prop} (d : List (El w cx en S)) (hw : ∀ g, cx.I g → w'.heap[g]? = w.heap[g]?) : VRs w' cx (d.map fun e => en e.x) (d.map (·.v)) := by
 induction d with
 | nil => exact .nil
 | cons e d ih => exact VRs.cons e.one (e.vr.keep hw (.refl _)) ih
theorem flat_one (l : List α) (en : α → V) : (l.map fun a => [en a]).flatten = l.map en := by
 induction l with
 | nil => rfl
 | cons a l ih => simp [ih]
theorem swo_of {cf : α → α → Int} (hflip : ∀ a b, cf b a = - cf a b) (htr : ∀ a b d, cf a b ≤ 0 → cf b d ≤ 0 → cf a d ≤ 0) : Sort.SWO (ltOf cf) where
 irrefl x := by have := hflip x x; simp only [ltOf, decide_eq_false_iff_not]; omega
 trans x y z h1 h2 := by
  simp only [ltOf, decide_eq_true_eq] at *
  by_cases h : cf x z < 0
  ·exact h
  ·have f1 := hflip x z
   have f2 := hflip y z
   have := htr z x y (by omega) (by omega)
   omega
 ntrans x y z h1 h2 := by
  simp only [ltOf, decide_eq_false_iff_not] at *
  have f1 := hflip x y
  have f2 := hflip y z
  have f3 := hflip x z
  have := htr z y x (by omega) (by omega)
  omega
theorem flat1_get {β : Type} [Inhabited β] (en : β → List Value) (d : Array β) (j : Nat) (hj : j < d.size) (v : Value) (he : en d[j] = [v]) : (flatK en 1 d)[j]! = v := by
 rw [get_flatK en 1 d j (by omega), Nat.div_one, Nat.mod_one, getElem!_pos d j hj, he]; rfl
set_option maxHeartbeats 1000000 in
theorem sortFunc_calls [Mode] (L : SlLaysF0.n6 P ρ) (aE : ∀ w, (isAgg (ρ.t 24)).run P w = .ok true w) (zE : ∀ w, (Go.sizeOf (ρ.t 24)).run P w = .ok 1 w) {g : Nat} {en : α → V} {S : α → Prop} {cf : α → α → Int}
    (hflip : ∀ a b, cf b a = - cf a b) (htr : ∀ a b d, cf a b ≤ 0 → cf b d ≤ 0 → cf a d ≤ 0)
    (hcmp : ∀ a b, S a → S b → @PCalls ⟨True⟩ P g [.agg [en a], .agg [en b]] (fun v => v = .c (.int .i64 (cf a b))))
    {σ : Hp} {k : Nat} {T : TypeId × Nat} {l : List α} (hT : T.2 = 1) (hk : σ.gr k = some (T, l.map fun a => [en a])) (hS : ∀ a ∈ l, S a) (hl : l.length < 4611686018427387904) :
    ACalls P (ρ.f 6) [.gl k, .fn (.func g) [] []] σ (fun v σ' => v = .tup [] ∧ ∃ l' : List α, l'.Perm l ∧ l'.Pairwise (fun a b => cf a b ≤ 0) ∧ σ' = σ.setGr k (some (T, l'.map fun a => [en a]))) := by
  refine ⟨L.f6.enters rfl, fun cx w xs hH ha => ?_⟩
  obtain ⟨hn, ha⟩ := ha
  match xs, hn with
  | [x0, x1], _ =>
  have h0 := ha 0 _ _ rfl rfl
  have h1 := ha 1 _ _ rfl rfl
  obtain ⟨hkn, e0⟩ : k < cx.nm ∧ x0 = cx.M k := by cases h0; exact ⟨by assumption, rfl⟩
  have e1 : x1 = .func (.func g) ⟨[]⟩ ⟨[]⟩ := by
    generalize hu : V.fn (Fn.func g) [] [] = u at h1
    cases h1 with
    | fn hn1 _ hn2 _ =>
      injection hu with i1 i2 i3
      subst i1; subst i2; subst i3
      rw [List.eq_nil_of_length_eq_zero hn1.symm, List.eq_nil_of_length_eq_zero hn2.symm]
    | _ => cases hu
  subst e0; subst e1
  clear h0 h1
  obtain ⟨_, hZ, hel, ys, hown, hys⟩ := hH.gr k T _ hk
  have hZ1 : cx.Z k = 1 := hZ.trans hT
  rw [flat_one] at hys
  have same : σ.setGr k (some (T, l.map fun a => [en a])) = σ := by
    cases σ
    simp only [Hp.setGr, Hp.mk.injEq, true_and]
    funext j
    by_cases e : j = k
    · subst e; simpa using hk.symm
    · simp [e]
  by_cases hl0 : l = []
  · have hlen : (l.map fun a => [en a]).length = 0 := by rw [hl0]; rfl
    have hM : ∃ p cap, cx.M k = .slice p 0 cap := by
      rcases hown.2 with ⟨hM, _⟩ | ⟨b, cap, cur, hM, _⟩
      · exact ⟨_, _, hM⟩
      · rw [hlen] at hM; exact ⟨_, _, hM⟩
    obtain ⟨p, cap, hM⟩ := hM
    rw [hM]
    refine (AnyF.slices_SortFunc_none (P := P) (ρ := ρ) L p cap (.func (.func g) #[] #[]) w).mono fun e w' ⟨he, hw⟩ => ?_
    subst hw
    refine ⟨.tup [], _, cx, σ, he, .tup rfl (fun i v x hv => by cases hv), ⟨hH, .refl _ _ _, fun _ x hx => .inl ⟨x, hx⟩, fun _ x hx => .inl ⟨x, hx⟩⟩, rfl, [], by rw [hl0], .nil, ?_⟩
    rw [hl0] at same
    exact same.symm
  · have hpos : 0 < l.length := List.length_pos_iff.2 hl0
    obtain ⟨d, hdx, hdv⟩ := els_of l ys hys hS
    have hdl : d.length = l.length := by rw [← hdx, List.length_map]
    rcases hown.2 with ⟨_, h0⟩ | ⟨b, cap, cur, hM, _, hbl, hcap, hmx, hcs, htk⟩
    · simp at h0; exact absurd h0 hl0
    rw [List.length_map] at hM hcap htk
    have hblt : b < w.heap.size := lt_of_block hbl
    have hown_b : σ.own cx b := .inr ⟨k, _, hk, by rw [hM]; rfl⟩
    have hnI : ¬ cx.I b := hH.apart b hown_b
    letI : Inhabited (El w cx en S) := ⟨d[0]⟩
    let enc : El w cx en S → List Value := fun e => [e.v]
    let cf' : El w cx en S → El w cx en S → Int := fun a b => cf a.x b.x
    have hO : Sort.SWO (ltOf cf') := swo_of (fun a b => hflip _ _) (fun a b d => htr _ _ _)
    have hds : d.toArray.size = l.length := by simpa using hdl
    have hcell : ∀ (F : Array (El w cx en S)), F.size = l.length → ∀ j, (hj : j < F.size) → (flatK enc 1 F)[j]! = F[j].v := fun F hF j hj => flat1_get enc F j hj _ rfl
    have hH1 : HoldsK enc 1 w b 0 d.toArray := by
      intro j hj
      rw [size_flatK] at hj
      have hj' : j < d.toArray.size := by omega
      rw [hcell _ hds j hj']
      have hjl : j < l.length := by omega
      have hc : cur.toList[j]? = some (d.toArray[j].v) := by
        have : ys[j]? = some (d.toArray[j].v) := by
          rw [← hdv, List.getElem?_map, List.getElem?_eq_getElem (by omega : j < d.length)]; rfl
        rw [← htk, List.getElem?_take] at this
        split at this
        · exact this
        · cases this
      refine ⟨?_, ?_⟩
      · simp only [World.cell?, hbl, Nat.zero_add, Option.isSome_none, Bool.false_eq_true, if_false]
        rw [← Array.getElem?_toList]; exact hc
      · simp [World.frozen?, hbl]
    have hwor : ∀ (m : Nat) (os : Array Obj) (dk : Array (El w cx en S)), (∀ g', g' < w.heap.size → g' ≠ b → (sortWorldK enc 1 w b 0 m dk os).heap[g']? = w.heap[g']?) ∧ w.heap.size ≤ (sortWorldK enc 1 w b 0 m dk os).heap.size := fun m os dk => by
      constructor
      · intro g' hg' hne
        unfold sortWorldK
        rw [Sort.heap_grow_old _ _ (by rw [size_putRowK]; exact hg')]
        simp only [putRowK, Sort.putRow, Sort.mapBlock, Array.getElem?_modify]
        rw [if_neg (fun e => hne e.symm)]
        rfl
      · exact size_sortWorldK_c enc 1 w b 0 m dk os
    have hlays : CmpLays P g #[] enc 1 cf' b 0 d.toArray.size w := by
      intro m os dk hs x y
      obtain ⟨hw1, hw2⟩ := hwor m os dk
      generalize sortWorldK enc 1 w b 0 m dk os = W at hw1 hw2 ⊢
      have himm : ∀ g', cx.I g' → W.heap[g']? = w.heap[g']? := fun g' hi => hw1 g' (hH.ilt g' hi) (fun e => hnI (e ▸ hi))
      have hHW : HR cx Hp.empty W := ⟨fun _ _ h => (by cases h), fun _ _ _ h => (by cases h), fun _ _ _ _ _ h => (by cases h), fun _ _ _ _ h => (by cases h), fun _ h => (own_empty h).elim, fun g' hi => Nat.lt_of_lt_of_le (hH.ilt g' hi) hw2⟩
      have hva : VAs W cx [.agg [en x.x], .agg [en y.x]] [.agg ⟨[x.v]⟩, .agg ⟨[y.v]⟩] := .cons (VRs.agg (.cons x.one (x.vr.keep himm (.refl _)) .nil)) (.cons (VRs.agg (.cons y.one (y.vr.keep himm (.refl _)) .nil)) .nil)
      refine (calls_quiet (hcmp x.x y.x x.ok y.ok) hHW hva).mono fun e w' ⟨v, r, cx', he, hv, hr, hq⟩ => ?_
      subst hr
      cases hv
      exact ⟨he, hq⟩
    have hA := AnyQ.slices_SortFunc L 1 aE zE enc (fun _ => rfl) (fun x v hv => by
      have : v = x.v := by simpa [enc] using hv
      rw [this]; exact x.one) cf' hO g #[] b 0 cap d.toArray w (hcmp d[0].x d[0].x d[0].ok d[0].ok).1 hlays hH1 hblt (by rw [hds]; exact hl)
    rw [hM]
    rw [hds] at hA
    refine hA.mono fun e w' ⟨he, d', n, os, hp, hsr, hw⟩ => ?_
    obtain ⟨hw1, hw2⟩ := hwor n os d'
    rw [← hw] at hw1 hw2
    have hd's : d'.size = l.length := by rw [hp.1, hds]
    have hperm : d'.toList.Perm d := by
      have := hp.2.2
      have a1 : d'.extract 0 l.length = d' := by rw [← hd's]; exact Array.extract_size
      have a2 : d.toArray.extract 0 l.length = d.toArray := by rw [← hds]; exact Array.extract_size
      rw [a1, a2] at this
      simpa using this
    have himm : ∀ g', cx.I g' → w'.heap[g']? = w.heap[g']? := fun g' hi => hw1 g' (hH.ilt g' hi) (fun e => hnI (e ▸ hi))
    have hbl' : ∃ cur', w'.heap[b]? = some (.cells cur' T.1 (0, 0)) ∧ cur'.size = cur.size ∧ cur'.toList.take l.length = d'.toList.map (·.v) := by
      refine ⟨Sort.putCells id 0 (flatK enc 1 d') cur, ?_, ?_, ?_⟩
      · rw [hw]
        unfold sortWorldK
        rw [Sort.heap_grow_old _ _ (by rw [size_putRowK]; exact hblt)]
        simp only [putRowK, Sort.putRow, Sort.mapBlock, Array.getElem?_modify, if_true]
        show Option.map _ w.heap[b]? = _
        rw [hbl]; rfl
      · simp [Sort.putCells]
      · apply List.ext_getElem?
        intro j
        rw [List.getElem?_take]
        by_cases hj : j < l.length
        · rw [if_pos hj]
          have hjd : j < d'.size := by omega
          have hjc : j < cur.size := by rw [hcs, hZ1]; omega
          rw [Array.getElem?_toList]
          simp only [Sort.putCells, Array.getElem?_mapIdx, Array.getElem?_eq_getElem hjc, Option.map_some, Nat.zero_le, true_and, Nat.zero_add, size_flatK, Nat.mul_one, hjd, if_true, Nat.sub_zero]
          rw [hcell d' hd's j hjd]
          simp [hjd]
        · rw [if_neg hj, List.getElem?_eq_none (by simp; omega)]
    obtain ⟨cur', hb1, hb2, hb3⟩ := hbl'
    have hl'len : (d'.toList.map (·.x)).length = l.length := by simp [hd's]
    have hown' : w'.ownsRow 0 T.1 (cx.Z k) (cx.M k) ((d'.toList.map (·.x)).map fun a => [en a]).length (d'.toList.map (·.v)) := by
      rw [List.length_map, hl'len]
      exact ⟨by simp [hZ1, hd's], .inr ⟨b, cap, cur', hM, by omega, hb1, hcap, hmx, by rw [hb2]; exact hcs, by rw [hZ1, Nat.mul_one]; exact hb3⟩⟩
    have hvrs : VRs w' cx ((d'.toList.map (·.x)).map fun a => [en a]).flatten (d'.toList.map (·.v)) := by
      rw [flat_one, List.map_map]
      exact els_VRs d'.toList himm
    have hMb : (cx.M k).ownBlock = some b := by rw [hM]; rfl
    have hHR : HR cx (σ.setGr k (some (T, (d'.toList.map (·.x)).map fun a => [en a]))) w' :=
      hH.setGr_same hk hMb hown' hvrs (fun e he => by
        obtain ⟨a, _, rfl⟩ := List.mem_map.1 he
        exact hZ1.symm) hw2 hw1
    have hos : w'.os = w.os ∧ w'.tape = w.tape ∧ w'.output = w.output ∧ (Mode.dm → w.drawn ≤ w'.drawn) := by
      rw [hw]
      exact ⟨rfl, rfl, rfl, fun _ => Nat.le_add_right _ _⟩
    have hsub : ∀ g', (σ.setGr k (some (T, (d'.toList.map (·.x)).map fun a => [en a]))).own cx g' → σ.own cx g' := fun g' hg' => by
      rcases hg' with ⟨c, hc⟩ | ⟨j, x, hj, hx⟩
      · exact .inl ⟨c, hc⟩
      · by_cases e : j = k
        · subst e; exact .inr ⟨j, _, hk, hx⟩
        · simp only [Hp.setGr, e, if_false] at hj; exact .inr ⟨j, x, hj, hx⟩
    refine ⟨.tup [], _, cx, _, he, .tup rfl (fun i v x hv => by cases hv), ⟨hHR, ⟨hos.1, hos.2.1, hos.2.2, hw2, fun g' hg' hno => hw1 g' hg' (fun e => hno (e ▸ hown_b)), .refl _, fun _ h => .inl h, fun g' hg' => .inl (hsub g' hg')⟩, fun j x hj => ?_, fun g' x hx => .inl ⟨x, hx⟩⟩, rfl, d'.toList.map (·.x), ?_, ?_, rfl⟩
    · by_cases e : j = k
      · exact .inl ⟨_, e ▸ hk⟩
      · simp only [Hp.setGr, e, if_false] at hj; exact .inl ⟨x, hj⟩
    · rw [← hdx]; exact hperm.map _
    · rw [List.pairwise_map, List.pairwise_iff_getElem]
      intro i j hi hj hij
      have hi' : i < d'.size := by simpa using hi
      have hj' : j < d'.size := by simpa using hj
      have := hsr i j (Nat.zero_le _) hij (by omega)
      rw [getElem!_pos d' j hj', getElem!_pos d' i hi'] at this
      simp only [ltOf, decide_eq_false_iff_not, cf'] at this
      have f := hflip (d'[i]).x (d'[j]).x
      show cf (d'[i]).x (d'[j]).x ≤ 0
      omega
end
end Go.Abs
namespace Go.Abs
open Go Go.MapKept
open Go.WideElems (Fit rd rg pl rd_val elemAt)
def isStr : Value → Bool
  | .string _ => true
  | _ => false
theorem bytes_eq_iff (a b : ByteArray) : (a.toList == b.toList) = (a == b) := by
 rw [Bool.eq_iff_iff, bytes_beq, beq_iff_eq, ByteArray.toList_eq, ByteArray.toList_eq]
 constructor
 ·intro h
  cases a; cases b
  exact congrArg _ (Array.toList_inj.1 h)
 ·intro h; rw [h]
theorem isStr_str {x : Value} (h : isStr x = true) : ∃ s, x = .string s := by
 cases x <;> simp [isStr] at h
 exact ⟨_, rfl⟩
theorem findNow_str (a : ByteArray) : ∀ (ms : List MapEntry) (i : Nat), (∀ m ∈ ms, isStr m.key = true) → Instr.findNow .string (.string a) ms i = some (findM (.string a) ms i)
  | [], i, _ => rfl
  | m :: ms, i, h => by
    obtain ⟨s, hs⟩ := isStr_str (h m List.mem_cons_self)
    have ih := findNow_str a ms (i + 1) fun x hx => h x (List.mem_cons_of_mem _ hx)
    simp only [Instr.findNow, findM, hs, Instr.sameNow, sameK, cellEq, bytes_eq_iff]
    cases (a == s)
    · exact ih
    · rfl
theorem KeyT.str {P : Program} {kt : TypeId} (hu : P.underlying kt = some .string) : KeyT P kt isStr := by
 refine ⟨fun em x w hx => ?_, fun x ms w hx hm => ?_, fun x y w hx hy hs => ?_⟩
 ·obtain ⟨s, rfl⟩ := isStr_str hx
  exact run_checkKey hu (by simp [IsKey]) em 9999
 ·obtain ⟨s, rfl⟩ := isStr_str hx
  exact run_findKey hu (findNow_str s ms 0 hm)
 ·obtain ⟨s, rfl⟩ := isStr_str hx
  obtain ⟨t, rfl⟩ := isStr_str hy
  simp only [sameK, cellEq, bytes_eq_iff, bytes_beq] at hs
  subst hs
  simp [Instr.keyThatStays, Instr.sameBits, (bytes_beq s s).2 rfl]
def entS (names : List ByteArray) : List V := names.map fun s => .tup [.c (.string s), .c (.bool true)]
theorem entS_ok : ∀ names : List ByteArray, entOk isStr (entS names) = true
  | [] => rfl
  | s :: l => by
    have := entS_ok l
    simp only [entS, List.map_cons, entOk, isStr, okV, Bool.true_and] at this ⊢
    exact this
def addN (names : List ByteArray) (s : ByteArray) : List ByteArray := if names.any (fun t => s.toList == t.toList) then names else names ++ [s]
theorem entV_cons (k v : Value) (u : V) (es : List V) (i : Nat) : entV (.tup [.c k, u] :: es) v i = if sameK v k then some (i, u) else entV es v (i + 1) := rfl
theorem entS_at (s : ByteArray) : ∀ (l : List ByteArray) (i : Nat), ((l.any (fun t => s.toList == t.toList)) = false ∧ entV (entS l) (.string s) i = none) ∨ ((l.any (fun t => s.toList == t.toList)) = true ∧ ∃ j, entV (entS l) (.string s) i = some (i + j, .c (.bool true)) ∧ l[j]? = some s)
  | [], i => .inl ⟨rfl, rfl⟩
  | t :: l, i => by
    have hc : entV (entS (t :: l)) (.string s) i = if (s.toList == t.toList) then some (i, .c (.bool true)) else entV (entS l) (.string s) (i + 1) := entV_cons (.string t) (.string s) (.c (.bool true)) (entS l) i
    rw [hc, List.any_cons]
    cases h : (s.toList == t.toList)
    · rw [Bool.false_or, if_neg Bool.false_ne_true]
      rcases entS_at s l (i + 1) with h1 | ⟨h1, j, h2, h3⟩
      · exact .inl h1
      · exact .inr ⟨h1, j + 1, by rw [h2]; congr 2; omega, by simpa using h3⟩
    · have e : s = t := (bytes_beq s t).1 (by rw [← bytes_eq_iff]; exact h)
      exact .inr ⟨by rw [Bool.true_or], 0, by rw [if_pos rfl]; rfl, by rw [e]; rfl⟩
theorem entS_upd (s : ByteArray) (names : List ByteArray) : (match entV (entS names) (.string s) 0 with | some (j, _) => (entS names).set j (.tup [.c (.string s), .c (.bool true)]) | none => entS names ++ [.tup [.c (.string s), .c (.bool true)]]) = entS (addN names s) := by
 rcases entS_at s names 0 with ⟨h1, h2⟩ | ⟨h1, j, h2, h3⟩
 ·rw [h2, addN, h1, if_neg Bool.false_ne_true]
  simp [entS]
 ·rw [h2, addN, h1, if_pos rfl, Nat.zero_add]
  have hj : (entS names)[j]? = some (.tup [.c (.string s), .c (.bool true)]) := by simp [entS, h3]
  show (entS names).set j _ = entS names
  apply List.ext_getElem?
  intro i
  rw [List.getElem?_set]
  split
  ·rename_i e
   subst e
   rw [hj, if_pos (List.getElem?_eq_some_iff.1 hj).1]
  ·rfl
theorem addN_nodup {names : List ByteArray} {s : ByteArray} (h : names.Nodup) : (addN names s).Nodup := by
 unfold addN
 split
 ·exact h
 ·rename_i hn
  refine List.nodup_append.2 ⟨h, by simp, fun a ha b hb e => hn ?_⟩
  rw [List.mem_singleton] at hb
  subst hb; subst e
  exact List.any_eq_true.2 ⟨a, ha, by simp⟩
theorem addN_mem {names : List ByteArray} {s t : ByteArray} : t ∈ addN names s ↔ t = s ∨ t ∈ names := by
 unfold addN
 split
 ·rename_i hn
  refine ⟨.inr, fun h => h.elim (fun e => ?_) id⟩
  subst e
  obtain ⟨u, hu, he⟩ := List.any_eq_true.1 hn
  have e : t = u := (bytes_beq t u).1 (by rw [← bytes_eq_iff]; exact he)
  rw [e]; exact hu
 ·rw [List.mem_append, List.mem_singleton]; exact ⟨fun h => h.symm, fun h => h.symm⟩
theorem ownsMap_of {P : Program} {kt et : TypeId} (hk : P.underlying kt = some .string) (he : P.underlying et = some .bool) {w : World} {cx : Cx} {g : Nat} {names : List ByteArray} (hn : names.Nodup) (hs : ∀ s ∈ names, s.size ≤ maxLen) (hl : names.length ≤ maxLen)
    (h : ∃ o, w.heap[g]? = some o ∧ OR w cx [.tup (entS names)] o) :
    ∃ D : DataW Unit, w.ownsMap P kt (plainElem P et) g names.length D ∧ Maps.size D = names.length ∧ (strKeys D).Perm (names.map fun s => s.data.toList) := by
  obtain ⟨o, ho, hor⟩ := h
  generalize hv : [V.tup (entS names)] = vs at hor
  cases hor with
  | cells hvr => subst hv; letI : Mode := ⟨True⟩; exact (noTupRow hvr).elim
  | @map es ms clock hlen hh hb hc =>
    have hes : es = entS names := by injection hv with hv; injection hv with hv; exact hv.symm
    subst hes
    have hlen : names.length = ms.length := by simpa [entS] using hlen
    have hent : ∀ (i : Nat) (s : ByteArray) (m : MapEntry), names[i]? = some s → ms[i]? = some m → m.key = .string s ∧ m.val = .bool true := fun i s m h1 h2 => by
      obtain ⟨v, e, hvr⟩ := hh i _ m (show (entS names)[i]? = some (.tup [.c (.string s), .c (.bool true)]) by simp [entS, h1]) h2
      injection e with e
      injection e with e1 e2
      injection e1 with e1
      injection e2 with e2
      subst e2
      exact ⟨e1.symm, (TR.v hvr).c_eq⟩
    have hall : ∀ m ∈ ms, ∃ s ∈ names, m.key = .string s ∧ m.val = .bool true := fun m hm => by
      obtain ⟨i, hi⟩ := List.getElem?_of_mem hm
      have hil : i < names.length := by rw [hlen]; exact (List.getElem?_eq_some_iff.1 hi).1
      exact ⟨names[i], List.getElem_mem hil, hent i _ m (List.getElem?_eq_getElem hil) hi⟩
    have hkey : ms.map (·.key) = names.map Value.string := by
      apply List.ext_getElem?
      intro i
      rw [List.getElem?_map, List.getElem?_map]
      by_cases hi : i < names.length
      · have hi' : i < ms.length := by omega
        rw [List.getElem?_eq_getElem hi, List.getElem?_eq_getElem hi']
        have := (hent i _ _ (List.getElem?_eq_getElem hi) (List.getElem?_eq_getElem hi')).1
        simp only [Option.map_some]; rw [this]
      · rw [List.getElem?_eq_none (by omega), List.getElem?_eq_none (by omega)]; rfl
    have hrd : ∀ m ∈ ms, ∀ s, m.key = .string s → m.val = .bool true → s.size ≤ maxLen → rd P kt (plainElem (H := Unit) P et) m = some (.string s.data.toList, .lit (.bool true)) := fun m _ s h1 h2 h3 => by
      simp [rd, h1, h2, keyOf, hk, mapKey, h3, plainElem_bool he]
    have hrgs : ms.map (rg P kt (plainElem (H := Unit) P et)) = names.map fun s => ((.string s.data.toList, .lit (.bool true)) : Lit × DataW Unit) := by
      apply List.ext_getElem?
      intro i
      rw [List.getElem?_map, List.getElem?_map]
      by_cases hi : i < names.length
      · have hi' : i < ms.length := by omega
        rw [List.getElem?_eq_getElem hi, List.getElem?_eq_getElem hi']
        obtain ⟨a1, a2⟩ := hent i _ _ (List.getElem?_eq_getElem hi) (List.getElem?_eq_getElem hi')
        simp only [Option.map_some, rg, hrd _ (List.getElem_mem hi') _ a1 a2 (hs _ (List.getElem_mem hi)), Option.getD_some]
      · rw [List.getElem?_eq_none (by omega), List.getElem?_eq_none (by omega)]; rfl
    refine ⟨.map ((ms.map (rg P kt (plainElem (H := Unit) P et))).foldr DataW.insert []), ⟨⟨ms⟩, clock, ho, ⟨by simp; omega, ⟨by simpa using hc, ?_, ?_⟩, fun x hx => ?_⟩, by simp; omega, rfl⟩, ?_, ?_⟩
    · simp only
      rw [List.nodup_iff_pairwise_ne, List.pairwise_map]; exact hb
    · simp only
      rw [hkey, List.nodup_iff_pairwise_ne, List.pairwise_map]
      exact (List.nodup_iff_pairwise_ne.1 hn).imp fun h e => h (by injection e)
    · obtain ⟨s, h1, h2, h3⟩ := hall x hx
      exact ⟨_, hrd x hx s h2 h3 (hs s h1)⟩
    · show (List.foldr DataW.insert [] _).length = _
      rw [length_sorted, List.length_map, hlen]
    · show (List.map (fun p => strOf p.1) (List.foldr DataW.insert [] _)).Perm _
      refine ((Go.WideShapes.sorted_perm _).map _).trans ?_
      rw [hrgs, List.map_map]
      exact .refl _
end Go.Abs
namespace Go.Proofs
open Go.RowKit Go.Maps Go.Sort Go.Shelf
def Tryz.keys125_ren : Go.Shelf.Ren := ⟨fun | 7 => 125 | 10 => 152 | n => n, fun | 23 => 87 | 26 => 9 | 3 => 4 | 28 => 143 | 0 => 0 | 27 => 142 | 33 => 91 | 4 => 4 | n => n, fun | n => n⟩
theorem Tryz.keys125 : Go.Proofs.SlLaysZ.n7 Tryz.prog Tryz.keys125_ren := {
 mixed := by kernel_rfl
 f7 := ⟨Tryz.f125.name, by decide, Tryz.func125.trans (congrArg some (by kernel_rfl))⟩
 f10 := ⟨Tryz.f152.name, by decide, Tryz.func152.trans (congrArg some (by kernel_rfl))⟩
 t0 := Tryz.underlying0
 a0 := Tryz.isAgg0
 z0 := Tryz.sizeOf0
 v0 := Tryz.zeroValue0
 t4 := Tryz.underlying4
 a4 := Tryz.isAgg4
 z4 := Tryz.sizeOf4
 v4 := Tryz.zeroValue4
 t23 := Tryz.underlying87
 a23 := Tryz.isAgg87
 z23 := Tryz.sizeOf87
 v23 := Tryz.zeroValue87
 t26 := Tryz.underlying9
 a26 := Tryz.isAgg9
 z26 := Tryz.sizeOf9
 v26 := Tryz.zeroValue9
 t27 := Tryz.underlying142
 a27 := Tryz.isAgg142
 z27 := Tryz.sizeOf142
 v27 := Tryz.zeroValue142
 t28 := Tryz.underlying143
 a28 := Tryz.isAgg143
 z28 := Tryz.sizeOf143
 v28 := Tryz.zeroValue143
 t33 := Tryz.underlying91
 a33 := Tryz.isAgg91
 z33 := Tryz.sizeOf91
 v33 := Tryz.zeroValue91 }
def Tryz.sorted124_ren : Go.Shelf.Ren := ⟨fun | 6 => 124 | 8 => 150 | 9 => 151 | 11 => 176 | 13 => 132 | 12 => 177 | 23 => 165 | 24 => 166 | 14 => 188 | 15 => 189 | 16 => 190 | 17 => 191 | 18 => 192 | 19 => 193 | 20 => 194 | 21 => 195 | 22 => 196 | 25 => 200 | 26 => 180 | 27 => 181 | 28 => 201 | 29 => 202 | 30 => 167 | 31 => 205 | n => n, fun | 26 => 9 | 28 => 143 | 24 => 88 | 0 => 0 | 3 => 3 | 37 => 151 | 48 => 176 | 50 => 113 | 4 => 4 | 40 => 170 | 39 => 169 | 45 => 161 | 5 => 5 | 9 => 9 | 51 => 188 | 55 => 192 | 57 => 203 | 58 => 204 | 33 => 91 | n => n, fun | n => n⟩
theorem Tryz.sorted124 : Go.Proofs.SlLaysZ.n6 Tryz.prog Tryz.sorted124_ren := {
 mixed := by kernel_rfl
 f6 := ⟨Tryz.f124.name, by decide, Tryz.func124.trans (congrArg some (by kernel_rfl))⟩
 f8 := ⟨Tryz.f150.name, by decide, Tryz.func150.trans (congrArg some (by kernel_rfl))⟩
 f11 := ⟨Tryz.f176.name, by decide, Tryz.func176.trans (congrArg some (by kernel_rfl))⟩
 t0 := Tryz.underlying0
 a0 := Tryz.isAgg0
 z0 := Tryz.sizeOf0
 v0 := Tryz.zeroValue0
 t24 := Tryz.underlying88
 a24 := Tryz.isAgg88
 z24 := Tryz.sizeOf88
 v24 := Tryz.zeroValue88
 t26 := Tryz.underlying9
 a26 := Tryz.isAgg9
 z26 := Tryz.sizeOf9
 v26 := Tryz.zeroValue9
 t28 := Tryz.underlying143
 a28 := Tryz.isAgg143
 z28 := Tryz.sizeOf143
 v28 := Tryz.zeroValue143
 i26 := by kernel_rfl }
def Tryz.sort151_ren : Go.Shelf.Ren := ⟨fun | 6 => 151 | 8 => 132 | 9 => 177 | 19 => 165 | 20 => 166 | 21 => 188 | 22 => 189 | 23 => 190 | 24 => 191 | 25 => 192 | 26 => 193 | 27 => 194 | 28 => 195 | 29 => 196 | 36 => 200 | 31 => 180 | 32 => 181 | 37 => 201 | 38 => 202 | 39 => 167 | 41 => 205 | n => n, fun | 27 => 88 | 29 => 9 | 3 => 3 | 32 => 151 | 26 => 88 | 0 => 0 | 44 => 176 | 46 => 113 | 4 => 4 | 36 => 170 | 35 => 169 | 41 => 161 | 5 => 5 | 9 => 9 | 53 => 188 | 57 => 192 | 63 => 203 | 64 => 204 | n => n, fun | n => n⟩
theorem Tryz.sort151 : Go.Proofs.SlLaysM.n6 Tryz.prog Tryz.sort151_ren := {
 mixed := by kernel_rfl
 f6 := ⟨Tryz.f151.name, by decide, Tryz.func151.trans (congrArg some (by kernel_rfl))⟩
 f8 := Tryz.func132.trans (congrArg some (by kernel_rfl))
 f9 := ⟨Tryz.f177.name, by decide, Tryz.func177.trans (congrArg some (by kernel_rfl))⟩
 f19 := Tryz.func165.trans (congrArg some (by kernel_rfl))
 f20 := Tryz.func166.trans (congrArg some (by kernel_rfl))
 f21 := ⟨Tryz.f188.name, by decide, Tryz.func188.trans (congrArg some (by kernel_rfl))⟩
 f22 := ⟨Tryz.f189.name, by decide, Tryz.func189.trans (congrArg some (by kernel_rfl))⟩
 f23 := ⟨Tryz.f190.name, by decide, Tryz.func190.trans (congrArg some (by kernel_rfl))⟩
 f24 := ⟨Tryz.f191.name, by decide, Tryz.func191.trans (congrArg some (by kernel_rfl))⟩
 f25 := ⟨Tryz.f192.name, by decide, Tryz.func192.trans (congrArg some (by kernel_rfl))⟩
 f26 := ⟨Tryz.f193.name, by decide, Tryz.func193.trans (congrArg some (by kernel_rfl))⟩
 f27 := ⟨Tryz.f194.name, by decide, Tryz.func194.trans (congrArg some (by kernel_rfl))⟩
 f28 := ⟨Tryz.f195.name, by decide, Tryz.func195.trans (congrArg some (by kernel_rfl))⟩
 f29 := ⟨Tryz.f196.name, by decide, Tryz.func196.trans (congrArg some (by kernel_rfl))⟩
 f31 := Tryz.func180.trans (congrArg some (by kernel_rfl))
 f32 := Tryz.func181.trans (congrArg some (by kernel_rfl))
 f36 := ⟨Tryz.f200.name, by decide, Tryz.func200.trans (congrArg some (by kernel_rfl))⟩
 f37 := ⟨Tryz.f201.name, by decide, Tryz.func201.trans (congrArg some (by kernel_rfl))⟩
 f38 := ⟨Tryz.f202.name, by decide, Tryz.func202.trans (congrArg some (by kernel_rfl))⟩
 f39 := ⟨Tryz.f167.name, by decide, Tryz.func167.trans (congrArg some (by kernel_rfl))⟩
 f41 := ⟨Tryz.f205.name, by decide, Tryz.func205.trans (congrArg some (by kernel_rfl))⟩
 t0 := Tryz.underlying0
 a0 := Tryz.isAgg0
 z0 := Tryz.sizeOf0
 v0 := Tryz.zeroValue0
 t3 := Tryz.underlying3
 a3 := Tryz.isAgg3
 z3 := Tryz.sizeOf3
 v3 := Tryz.zeroValue3
 t4 := Tryz.underlying4
 a4 := Tryz.isAgg4
 z4 := Tryz.sizeOf4
 v4 := Tryz.zeroValue4
 t5 := Tryz.underlying5
 a5 := Tryz.isAgg5
 z5 := Tryz.sizeOf5
 v5 := Tryz.zeroValue5
 t9 := Tryz.underlying9
 a9 := Tryz.isAgg9
 z9 := Tryz.sizeOf9
 v9 := Tryz.zeroValue9
 t26 := Tryz.underlying88
 a26 := Tryz.isAgg88
 z26 := Tryz.sizeOf88
 v26 := Tryz.zeroValue88
 t27 := Tryz.underlying88
 a27 := Tryz.isAgg88
 z27 := Tryz.sizeOf88
 v27 := Tryz.zeroValue88
 t29 := Tryz.underlying9
 a29 := Tryz.isAgg9
 z29 := Tryz.sizeOf9
 v29 := Tryz.zeroValue9
 t32 := Tryz.underlying151
 a32 := Tryz.isAgg151
 z32 := Tryz.sizeOf151
 v32 := Tryz.zeroValue151
 t35 := Tryz.underlying169
 a35 := Tryz.isAgg169
 z35 := Tryz.sizeOf169
 v35 := Tryz.zeroValue169
 t36 := Tryz.underlying170
 a36 := Tryz.isAgg170
 z36 := Tryz.sizeOf170
 v36 := Tryz.zeroValue170
 t41 := Tryz.underlying161
 a41 := Tryz.isAgg161
 z41 := Tryz.sizeOf161
 v41 := Tryz.zeroValue161
 t44 := Tryz.underlying176
 a44 := Tryz.isAgg176
 z44 := Tryz.sizeOf176
 v44 := Tryz.zeroValue176
 t46 := Tryz.underlying113
 a46 := Tryz.isAgg113
 z46 := Tryz.sizeOf113
 v46 := Tryz.zeroValue113
 t53 := Tryz.underlying188
 a53 := Tryz.isAgg188
 z53 := Tryz.sizeOf188
 v53 := Tryz.zeroValue188
 t57 := Tryz.underlying192
 a57 := Tryz.isAgg192
 z57 := Tryz.sizeOf192
 v57 := Tryz.zeroValue192
 t63 := Tryz.underlying203
 a63 := Tryz.isAgg203
 z63 := Tryz.sizeOf203
 v63 := Tryz.zeroValue203
 t64 := Tryz.underlying204
 a64 := Tryz.isAgg204
 z64 := Tryz.sizeOf204
 v64 := Tryz.zeroValue204 }
theorem Tryz.sorts124 (m : Nat) : AnyZ.SortsIn Tryz.prog Tryz.sorted124_ren Fence.wide m :=
  ⟨fun blk off cap ss W hH hblk hsz => callsIn_wide.2 (AnyM.slices_Sort_string Tryz.sort151 blk off cap ss W hH hblk hsz),
   fun p cap W => callsIn_wide.2 (AnyM.slices_Sort_string_none Tryz.sort151 p cap W)⟩
theorem Tryz.maps_Keys_125 (mb : Option Nat) (W : World) : CallsIn Fence.wide 5 Tryz.prog 125 #[.map mb] W fun e w' => e = .returned (.func (.func 152) #[] #[.pointer (some ⟨W.heap.size, 0, none⟩)]) ∧ w' = W.alloc (.cells #[.map mb] 87) :=
 AnyZ.keys_in Tryz.keys125 Fence.wide 5 trivial rfl mb W
set_option maxHeartbeats 1000000 in
theorem Tryz.slices_Sorted_keys_124_125 {H : Type} (b nn : Nat) (D0 : DataW H) (R : Value → Option (DataW H × List MemPlace)) (w : World) (hown : w.ownsMap Tryz.prog 9 R b nn D0) (hmax : Maps.size D0 ≤ maxLen) (hbytes : Maps.size D0 * 16 ≤ 140737488355328) :
  CallsIn Fence.wide 5 Tryz.prog 124 #[.func (.func 152) #[] #[.pointer (some ⟨w.heap.size, 0, none⟩)]] (w.alloc (.cells #[.map (some b)] 87)) fun e w' => ∃ (v : Value) (ss : List (List UInt8)), e = .returned v ∧ ss.Perm (strKeys D0) ∧
   w'.ownsRow (w.alloc (.cells #[.map (some b)] 87)).heap.size 9 1 v ss.length ((ss.mergeSort (fun x y => decide (x ≤ y))).map encStr) ∧ (v = .slice none 0 0 ↔ ss = []) ∧ Below (w.alloc (.cells #[.map (some b)] 87)).heap.size (w.alloc (.cells #[.map (some b)] 87)) w' := by
 have hbl := hown.lt
 have hseq : SeqGives Fence.wide 2 Tryz.prog 152 #[.pointer (some ⟨w.heap.size, 0, none⟩)] encStr (fun ss => ss.Perm (strKeys D0)) (Maps.size D0) (w.alloc (.cells #[.map (some b)] 87)) :=
  AnyZ.keys_gives (ρ := Tryz.keys125_ren) { Tryz.keys125 with } Fence.wide _ trivial rfl (by omega) w.heap.size b nn D0 _ (by simp) (by simp) (by
   obtain ⟨es, clock, hb, Ft, hs, hD⟩ := hown
   exact ⟨es, clock, (Below.heap_alloc _ _ b hbl).trans hb, Ft, hs, hD⟩)
 exact AnyZ.sorted_in Tryz.sorted124 Fence.wide 5 trivial trivial trivial trivial rfl (by omega) (Tryz.sorts124 _) (enters_of Tryz.func151 (by kernel_rfl) rfl) 152 #[.pointer (some ⟨w.heap.size, 0, none⟩)] trivial (enters_of Tryz.func152 (by kernel_rfl) rfl) _ _ hmax hbytes _ hseq
set_option maxHeartbeats 1000000 in
theorem Tryz.set_list {H : Type} (b nn : Nat) (D0 : DataW H) (R : Value → Option (DataW H × List MemPlace)) (w : World) (hown : w.ownsMap Tryz.prog 9 R b nn D0) (hmax : Maps.size D0 ≤ maxLen) (hbytes : Maps.size D0 * 16 ≤ 140737488355328) :
  Calls Tryz.prog 96 #[.map (some b)] w fun e w' => ∃ (v : Value) (ss : List (List UInt8)), e = .returned v ∧ ss.Perm (strKeys D0) ∧
   w'.ownsRow w.heap.size 9 1 v ss.length ((ss.mergeSort (fun x y => decide (x ≤ y))).map encStr) ∧ (v = .slice none 0 0 ↔ ss = []) ∧ Below w.heap.size w w' := by
 refine (callsIn_wide (n := 6)).1 ?_
 have hfK : Fence.wide.fn 125 := trivial
 have hfS : Fence.wide.fn 124 := trivial
 refine callsIn_of_wp Tryz.func96 rfl trivial ?_ rfl
 simp only [Tryz.ntmps96, List.size_toArray, List.length_cons, List.length_nil, Nat.reduceAdd, Nat.reduceSub, Array.replicate_succ, Array.replicate_zero, List.push_toArray, List.append_toArray, List.nil_append, List.cons_append]
 gi_wp2_with (first
  | (gi_at_call 125; refine (Tryz.maps_Keys_125 _ _).mono ?_; rintro e w' ⟨rfl, rfl⟩)
  | (gi_at_call 124; refine (Tryz.slices_Sorted_keys_124_125 b nn D0 R w hown hmax hbytes).mono ?_; rintro e w' ⟨v, ss, rfl, hS, hrow, hnil, hb⟩))
 go_ret
 exact ⟨v, ss, rfl, hS, ownsRow_base_a hrow (by simp), hnil, ((Below.refl _ w).alloc (Nat.le_refl _) _).trans (hb.mono (by simp))⟩
end Go.Proofs
namespace Go.Abs.M
open Go Go.Abs Go.Proofs
theorem t2 : okT Tryz.prog 2 = true ∧ szT Tryz.prog 2 = 1 ∧ aggT Tryz.prog 2 = false ∧ zeroT Tryz.prog 2 = some (.int Go.IntKind.i64 (0)) ∧ Program.bytesOf Tryz.prog 2 = 8 ∧ slT Tryz.prog 2 = false ∧ strT Tryz.prog 2 = false := by and_intros <;> kernel_rfl
theorem t3 : okT Tryz.prog 3 = true ∧ szT Tryz.prog 3 = 1 ∧ aggT Tryz.prog 3 = false ∧ zeroT Tryz.prog 3 = some (.int Go.IntKind.i64 (0)) ∧ Program.bytesOf Tryz.prog 3 = 8 ∧ slT Tryz.prog 3 = false ∧ strT Tryz.prog 3 = false := by and_intros <;> kernel_rfl
theorem t4 : okT Tryz.prog 4 = true ∧ szT Tryz.prog 4 = 1 ∧ aggT Tryz.prog 4 = false ∧ zeroT Tryz.prog 4 = some (.bool false) ∧ Program.bytesOf Tryz.prog 4 = 1 ∧ slT Tryz.prog 4 = false ∧ strT Tryz.prog 4 = false ∧ Program.underlying Tryz.prog 4 = some .bool := by and_intros <;> kernel_rfl
theorem t5 : okT Tryz.prog 5 = true ∧ szT Tryz.prog 5 = 1 ∧ aggT Tryz.prog 5 = false ∧ zeroT Tryz.prog 5 = some (.int Go.IntKind.u8 (0)) ∧ Program.bytesOf Tryz.prog 5 = 1 ∧ slT Tryz.prog 5 = false ∧ strT Tryz.prog 5 = false := by and_intros <;> kernel_rfl
theorem t6 : okT Tryz.prog 6 = true ∧ szT Tryz.prog 6 = 1 ∧ aggT Tryz.prog 6 = false ∧ zeroT Tryz.prog 6 = some (.int Go.IntKind.u8 (0)) ∧ Program.bytesOf Tryz.prog 6 = 1 ∧ slT Tryz.prog 6 = false ∧ strT Tryz.prog 6 = false := by and_intros <;> kernel_rfl
theorem t7 : okT Tryz.prog 7 = true ∧ szT Tryz.prog 7 = 4 ∧ aggT Tryz.prog 7 = true ∧ zeroT Tryz.prog 7 = some (.agg #[.int Go.IntKind.i64 (0), .int Go.IntKind.i64 (0), .bool false, .int Go.IntKind.u8 (0)]) ∧ Program.bytesOf Tryz.prog 7 = 24 ∧ slT Tryz.prog 7 = false ∧ strT Tryz.prog 7 = false ∧ offT Tryz.prog 7 0 = some 0 ∧ offT Tryz.prog 7 1 = some 1 ∧ offT Tryz.prog 7 2 = some 2 ∧ offT Tryz.prog 7 3 = some 3 ∧ placeT Tryz.prog 7 = some (fun i => (#[(0, 1), (1, 1), (2, 1), (3, 1)] : Array (Nat × Nat))[i]?) := by and_intros <;> kernel_rfl
theorem t8 : okT Tryz.prog 8 = true ∧ szT Tryz.prog 8 = 4 ∧ aggT Tryz.prog 8 = true ∧ zeroT Tryz.prog 8 = some (.agg #[.int Go.IntKind.i64 (0), .int Go.IntKind.i64 (0), .bool false, .int Go.IntKind.u8 (0)]) ∧ Program.bytesOf Tryz.prog 8 = 24 ∧ slT Tryz.prog 8 = false ∧ strT Tryz.prog 8 = false ∧ offT Tryz.prog 8 0 = some 0 ∧ offT Tryz.prog 8 1 = some 1 ∧ offT Tryz.prog 8 2 = some 2 ∧ offT Tryz.prog 8 3 = some 3 ∧ placeT Tryz.prog 8 = some (fun i => (#[(0, 1), (1, 1), (2, 1), (3, 1)] : Array (Nat × Nat))[i]?) := by and_intros <;> kernel_rfl
theorem t9 : okT Tryz.prog 9 = true ∧ szT Tryz.prog 9 = 1 ∧ aggT Tryz.prog 9 = false ∧ zeroT Tryz.prog 9 = some (.string ⟨#[]⟩) ∧ Program.bytesOf Tryz.prog 9 = 16 ∧ slT Tryz.prog 9 = false ∧ strT Tryz.prog 9 = true := by and_intros <;> kernel_rfl
theorem t10 : okT Tryz.prog 10 = true ∧ szT Tryz.prog 10 = 1 ∧ aggT Tryz.prog 10 = false ∧ zeroT Tryz.prog 10 = some (.string ⟨#[]⟩) ∧ Program.bytesOf Tryz.prog 10 = 16 ∧ slT Tryz.prog 10 = false ∧ strT Tryz.prog 10 = true := by and_intros <;> kernel_rfl
theorem t11 : okT Tryz.prog 11 = true ∧ szT Tryz.prog 11 = 1 ∧ aggT Tryz.prog 11 = false ∧ zeroT Tryz.prog 11 = some (.string ⟨#[]⟩) ∧ Program.bytesOf Tryz.prog 11 = 16 ∧ slT Tryz.prog 11 = false ∧ strT Tryz.prog 11 = true := by and_intros <;> kernel_rfl
theorem t12 : okT Tryz.prog 12 = true ∧ szT Tryz.prog 12 = 1 ∧ aggT Tryz.prog 12 = false ∧ zeroT Tryz.prog 12 = some (.int Go.IntKind.u64 (0)) ∧ Program.bytesOf Tryz.prog 12 = 8 ∧ slT Tryz.prog 12 = false ∧ strT Tryz.prog 12 = false := by and_intros <;> kernel_rfl
theorem t13 : okT Tryz.prog 13 = true ∧ szT Tryz.prog 13 = 2 ∧ aggT Tryz.prog 13 = true ∧ zeroT Tryz.prog 13 = some (.agg #[.string ⟨#[]⟩, .int Go.IntKind.u64 (0)]) ∧ Program.bytesOf Tryz.prog 13 = 24 ∧ slT Tryz.prog 13 = false ∧ strT Tryz.prog 13 = false ∧ offT Tryz.prog 13 0 = some 0 ∧ offT Tryz.prog 13 1 = some 1 ∧ placeT Tryz.prog 13 = some (fun i => (#[(0, 1), (1, 1)] : Array (Nat × Nat))[i]?) := by and_intros <;> kernel_rfl
theorem t14 : okT Tryz.prog 14 = true ∧ szT Tryz.prog 14 = 2 ∧ aggT Tryz.prog 14 = true ∧ zeroT Tryz.prog 14 = some (.agg #[.string ⟨#[]⟩, .int Go.IntKind.u64 (0)]) ∧ Program.bytesOf Tryz.prog 14 = 24 ∧ slT Tryz.prog 14 = false ∧ strT Tryz.prog 14 = false ∧ offT Tryz.prog 14 0 = some 0 ∧ offT Tryz.prog 14 1 = some 1 ∧ placeT Tryz.prog 14 = some (fun i => (#[(0, 1), (1, 1)] : Array (Nat × Nat))[i]?) := by and_intros <;> kernel_rfl
theorem t15 : okT Tryz.prog 15 = true ∧ szT Tryz.prog 15 = 1 ∧ aggT Tryz.prog 15 = false ∧ zeroT Tryz.prog 15 = some (.pointer none) ∧ Program.bytesOf Tryz.prog 15 = 8 ∧ slT Tryz.prog 15 = false ∧ strT Tryz.prog 15 = false ∧ Program.underlying Tryz.prog 15 = some (.pointer 211) := by and_intros <;> kernel_rfl
theorem t16 : okT Tryz.prog 16 = true ∧ szT Tryz.prog 16 = 1 ∧ aggT Tryz.prog 16 = false ∧ zeroT Tryz.prog 16 = some (.pointer none) ∧ Program.bytesOf Tryz.prog 16 = 8 ∧ slT Tryz.prog 16 = false ∧ strT Tryz.prog 16 = false ∧ Program.underlying Tryz.prog 16 = some (.pointer 214) := by and_intros <;> kernel_rfl
theorem t17 : okT Tryz.prog 17 = true ∧ szT Tryz.prog 17 = 1 ∧ aggT Tryz.prog 17 = false ∧ zeroT Tryz.prog 17 = some (.pointer none) ∧ Program.bytesOf Tryz.prog 17 = 8 ∧ slT Tryz.prog 17 = false ∧ strT Tryz.prog 17 = false ∧ Program.underlying Tryz.prog 17 = some (.pointer 223) := by and_intros <;> kernel_rfl
theorem t18 : okT Tryz.prog 18 = true ∧ szT Tryz.prog 18 = 1 ∧ aggT Tryz.prog 18 = true ∧ zeroT Tryz.prog 18 = some (.agg #[.pointer none]) ∧ Program.bytesOf Tryz.prog 18 = 8 ∧ slT Tryz.prog 18 = false ∧ strT Tryz.prog 18 = false ∧ offT Tryz.prog 18 0 = some 0 ∧ placeT Tryz.prog 18 = some (fun i => (#[(0, 1)] : Array (Nat × Nat))[i]?) := by and_intros <;> kernel_rfl
theorem t19 : okT Tryz.prog 19 = true ∧ szT Tryz.prog 19 = 1 ∧ aggT Tryz.prog 19 = true ∧ zeroT Tryz.prog 19 = some (.agg #[.pointer none]) ∧ Program.bytesOf Tryz.prog 19 = 8 ∧ slT Tryz.prog 19 = false ∧ strT Tryz.prog 19 = false ∧ offT Tryz.prog 19 0 = some 0 ∧ placeT Tryz.prog 19 = some (fun i => (#[(0, 1)] : Array (Nat × Nat))[i]?) := by and_intros <;> kernel_rfl
theorem t21 : okT Tryz.prog 21 = true ∧ szT Tryz.prog 21 = 1 ∧ aggT Tryz.prog 21 = false ∧ zeroT Tryz.prog 21 = some (.int Go.IntKind.i32 (0)) ∧ Program.bytesOf Tryz.prog 21 = 4 ∧ slT Tryz.prog 21 = false ∧ strT Tryz.prog 21 = false := by and_intros <;> kernel_rfl
theorem t22 : okT Tryz.prog 22 = true ∧ szT Tryz.prog 22 = 1 ∧ aggT Tryz.prog 22 = false ∧ zeroT Tryz.prog 22 = some (.slice none 0 0) ∧ Program.bytesOf Tryz.prog 22 = 24 ∧ slT Tryz.prog 22 = true ∧ Program.elem Tryz.prog 22 = 108 ∧ strT Tryz.prog 22 = false := by and_intros <;> kernel_rfl
theorem t23 : okT Tryz.prog 23 = true ∧ szT Tryz.prog 23 = 1 ∧ aggT Tryz.prog 23 = false ∧ zeroT Tryz.prog 23 = some (.slice none 0 0) ∧ Program.bytesOf Tryz.prog 23 = 24 ∧ slT Tryz.prog 23 = true ∧ Program.elem Tryz.prog 23 = 25 ∧ strT Tryz.prog 23 = false := by and_intros <;> kernel_rfl
theorem t24 : okT Tryz.prog 24 = true ∧ szT Tryz.prog 24 = 5 ∧ aggT Tryz.prog 24 = true ∧ zeroT Tryz.prog 24 = some (.agg #[.int Go.IntKind.i64 (0), .string ⟨#[]⟩, .string ⟨#[]⟩, .slice none 0 0, .slice none 0 0]) ∧ Program.bytesOf Tryz.prog 24 = 88 ∧ slT Tryz.prog 24 = false ∧ strT Tryz.prog 24 = false ∧ offT Tryz.prog 24 0 = some 0 ∧ offT Tryz.prog 24 1 = some 1 ∧ offT Tryz.prog 24 2 = some 2 ∧ offT Tryz.prog 24 3 = some 3 ∧ offT Tryz.prog 24 4 = some 4 ∧ placeT Tryz.prog 24 = some (fun i => (#[(0, 1), (1, 1), (2, 1), (3, 1), (4, 1)] : Array (Nat × Nat))[i]?) := by and_intros <;> kernel_rfl
theorem t25 : okT Tryz.prog 25 = true ∧ szT Tryz.prog 25 = 5 ∧ aggT Tryz.prog 25 = true ∧ zeroT Tryz.prog 25 = some (.agg #[.int Go.IntKind.i64 (0), .string ⟨#[]⟩, .string ⟨#[]⟩, .slice none 0 0, .slice none 0 0]) ∧ Program.bytesOf Tryz.prog 25 = 88 ∧ slT Tryz.prog 25 = false ∧ strT Tryz.prog 25 = false ∧ offT Tryz.prog 25 0 = some 0 ∧ offT Tryz.prog 25 1 = some 1 ∧ offT Tryz.prog 25 2 = some 2 ∧ offT Tryz.prog 25 3 = some 3 ∧ offT Tryz.prog 25 4 = some 4 ∧ placeT Tryz.prog 25 = some (fun i => (#[(0, 1), (1, 1), (2, 1), (3, 1), (4, 1)] : Array (Nat × Nat))[i]?) := by and_intros <;> kernel_rfl
theorem t26 : okT Tryz.prog 26 = true ∧ szT Tryz.prog 26 = 1 ∧ aggT Tryz.prog 26 = false ∧ zeroT Tryz.prog 26 = some (.slice none 0 0) ∧ Program.bytesOf Tryz.prog 26 = 24 ∧ slT Tryz.prog 26 = true ∧ Program.elem Tryz.prog 26 = 48 ∧ strT Tryz.prog 26 = false := by and_intros <;> kernel_rfl
theorem t29 : okT Tryz.prog 29 = true ∧ szT Tryz.prog 29 = 1 ∧ aggT Tryz.prog 29 = false ∧ zeroT Tryz.prog 29 = some (.slice none 0 0) ∧ Program.bytesOf Tryz.prog 29 = 24 ∧ slT Tryz.prog 29 = true ∧ Program.elem Tryz.prog 29 = 40 ∧ strT Tryz.prog 29 = false := by and_intros <;> kernel_rfl
theorem t30 : okT Tryz.prog 30 = true ∧ szT Tryz.prog 30 = 1 ∧ aggT Tryz.prog 30 = false ∧ zeroT Tryz.prog 30 = some (.int Go.IntKind.i64 (0)) ∧ Program.bytesOf Tryz.prog 30 = 8 ∧ slT Tryz.prog 30 = false ∧ strT Tryz.prog 30 = false := by and_intros <;> kernel_rfl
theorem t36 : okT Tryz.prog 36 = true ∧ szT Tryz.prog 36 = 8 ∧ aggT Tryz.prog 36 = true ∧ zeroT Tryz.prog 36 = some (.agg #[.string ⟨#[]⟩, .int Go.IntKind.i64 (0), .int Go.IntKind.i64 (0), .string ⟨#[]⟩, .string ⟨#[]⟩, .slice none 0 0, .slice none 0 0, .slice none 0 0]) ∧ Program.bytesOf Tryz.prog 36 = 136 ∧ slT Tryz.prog 36 = false ∧ strT Tryz.prog 36 = false ∧ offT Tryz.prog 36 0 = some 0 ∧ offT Tryz.prog 36 1 = some 1 ∧ offT Tryz.prog 36 2 = some 2 ∧ offT Tryz.prog 36 3 = some 7 ∧ placeT Tryz.prog 36 = some (fun i => (#[(0, 1), (1, 1), (2, 5), (7, 1)] : Array (Nat × Nat))[i]?) := by and_intros <;> kernel_rfl
theorem t37 : okT Tryz.prog 37 = true ∧ szT Tryz.prog 37 = 8 ∧ aggT Tryz.prog 37 = true ∧ zeroT Tryz.prog 37 = some (.agg #[.string ⟨#[]⟩, .int Go.IntKind.i64 (0), .int Go.IntKind.i64 (0), .string ⟨#[]⟩, .string ⟨#[]⟩, .slice none 0 0, .slice none 0 0, .slice none 0 0]) ∧ Program.bytesOf Tryz.prog 37 = 136 ∧ slT Tryz.prog 37 = false ∧ strT Tryz.prog 37 = false ∧ offT Tryz.prog 37 0 = some 0 ∧ offT Tryz.prog 37 1 = some 1 ∧ offT Tryz.prog 37 2 = some 2 ∧ offT Tryz.prog 37 3 = some 7 ∧ placeT Tryz.prog 37 = some (fun i => (#[(0, 1), (1, 1), (2, 5), (7, 1)] : Array (Nat × Nat))[i]?) := by and_intros <;> kernel_rfl
theorem t38 : okT Tryz.prog 38 = true ∧ szT Tryz.prog 38 = 1 ∧ aggT Tryz.prog 38 = false ∧ zeroT Tryz.prog 38 = some (.slice none 0 0) ∧ Program.bytesOf Tryz.prog 38 = 24 ∧ slT Tryz.prog 38 = true ∧ Program.elem Tryz.prog 38 = 50 ∧ strT Tryz.prog 38 = false := by and_intros <;> kernel_rfl
theorem t39 : okT Tryz.prog 39 = true ∧ szT Tryz.prog 39 = 1 ∧ aggT Tryz.prog 39 = true ∧ zeroT Tryz.prog 39 = some (.agg #[.slice none 0 0]) ∧ Program.bytesOf Tryz.prog 39 = 24 ∧ slT Tryz.prog 39 = false ∧ strT Tryz.prog 39 = false ∧ offT Tryz.prog 39 0 = some 0 ∧ placeT Tryz.prog 39 = some (fun i => (#[(0, 1)] : Array (Nat × Nat))[i]?) := by and_intros <;> kernel_rfl
theorem t40 : okT Tryz.prog 40 = true ∧ szT Tryz.prog 40 = 1 ∧ aggT Tryz.prog 40 = true ∧ zeroT Tryz.prog 40 = some (.agg #[.slice none 0 0]) ∧ Program.bytesOf Tryz.prog 40 = 24 ∧ slT Tryz.prog 40 = false ∧ strT Tryz.prog 40 = false ∧ offT Tryz.prog 40 0 = some 0 ∧ placeT Tryz.prog 40 = some (fun i => (#[(0, 1)] : Array (Nat × Nat))[i]?) := by and_intros <;> kernel_rfl
theorem t44 : okT Tryz.prog 44 = true ∧ szT Tryz.prog 44 = 2 ∧ aggT Tryz.prog 44 = true ∧ zeroT Tryz.prog 44 = some (.agg #[.int Go.IntKind.i64 (0), .int Go.IntKind.i64 (0)]) ∧ Program.bytesOf Tryz.prog 44 = 16 ∧ slT Tryz.prog 44 = false ∧ strT Tryz.prog 44 = false ∧ offT Tryz.prog 44 0 = some 0 ∧ offT Tryz.prog 44 1 = some 1 ∧ placeT Tryz.prog 44 = some (fun i => (#[(0, 1), (1, 1)] : Array (Nat × Nat))[i]?) := by and_intros <;> kernel_rfl
theorem t45 : okT Tryz.prog 45 = true ∧ szT Tryz.prog 45 = 2 ∧ aggT Tryz.prog 45 = true ∧ zeroT Tryz.prog 45 = some (.agg #[.int Go.IntKind.i64 (0), .int Go.IntKind.i64 (0)]) ∧ Program.bytesOf Tryz.prog 45 = 16 ∧ slT Tryz.prog 45 = false ∧ strT Tryz.prog 45 = false ∧ offT Tryz.prog 45 0 = some 0 ∧ offT Tryz.prog 45 1 = some 1 ∧ placeT Tryz.prog 45 = some (fun i => (#[(0, 1), (1, 1)] : Array (Nat × Nat))[i]?) := by and_intros <;> kernel_rfl
theorem t46 : okT Tryz.prog 46 = true ∧ szT Tryz.prog 46 = 1 ∧ aggT Tryz.prog 46 = false ∧ zeroT Tryz.prog 46 = some (.slice none 0 0) ∧ Program.bytesOf Tryz.prog 46 = 24 ∧ slT Tryz.prog 46 = true ∧ Program.elem Tryz.prog 46 = 119 ∧ strT Tryz.prog 46 = false := by and_intros <;> kernel_rfl
theorem t47 : okT Tryz.prog 47 = true ∧ szT Tryz.prog 47 = 5 ∧ aggT Tryz.prog 47 = true ∧ zeroT Tryz.prog 47 = some (.agg #[.int Go.IntKind.i64 (0), .int Go.IntKind.i64 (0), .int Go.IntKind.i64 (0), .string ⟨#[]⟩, .slice none 0 0]) ∧ Program.bytesOf Tryz.prog 47 = 64 ∧ slT Tryz.prog 47 = false ∧ strT Tryz.prog 47 = false ∧ offT Tryz.prog 47 0 = some 0 ∧ offT Tryz.prog 47 1 = some 2 ∧ offT Tryz.prog 47 2 = some 3 ∧ offT Tryz.prog 47 3 = some 4 ∧ placeT Tryz.prog 47 = some (fun i => (#[(0, 2), (2, 1), (3, 1), (4, 1)] : Array (Nat × Nat))[i]?) := by and_intros <;> kernel_rfl
theorem t48 : okT Tryz.prog 48 = true ∧ szT Tryz.prog 48 = 5 ∧ aggT Tryz.prog 48 = true ∧ zeroT Tryz.prog 48 = some (.agg #[.int Go.IntKind.i64 (0), .int Go.IntKind.i64 (0), .int Go.IntKind.i64 (0), .string ⟨#[]⟩, .slice none 0 0]) ∧ Program.bytesOf Tryz.prog 48 = 64 ∧ slT Tryz.prog 48 = false ∧ strT Tryz.prog 48 = false ∧ offT Tryz.prog 48 0 = some 0 ∧ offT Tryz.prog 48 1 = some 2 ∧ offT Tryz.prog 48 2 = some 3 ∧ offT Tryz.prog 48 3 = some 4 ∧ placeT Tryz.prog 48 = some (fun i => (#[(0, 2), (2, 1), (3, 1), (4, 1)] : Array (Nat × Nat))[i]?) := by and_intros <;> kernel_rfl
theorem t49 : okT Tryz.prog 49 = true ∧ szT Tryz.prog 49 = 6 ∧ aggT Tryz.prog 49 = true ∧ zeroT Tryz.prog 49 = some (.agg #[.string ⟨#[]⟩, .int Go.IntKind.i64 (0), .int Go.IntKind.i64 (0), .int Go.IntKind.i64 (0), .string ⟨#[]⟩, .slice none 0 0]) ∧ Program.bytesOf Tryz.prog 49 = 80 ∧ slT Tryz.prog 49 = false ∧ strT Tryz.prog 49 = false ∧ offT Tryz.prog 49 0 = some 0 ∧ offT Tryz.prog 49 1 = some 1 ∧ placeT Tryz.prog 49 = some (fun i => (#[(0, 1), (1, 5)] : Array (Nat × Nat))[i]?) := by and_intros <;> kernel_rfl
theorem t50 : okT Tryz.prog 50 = true ∧ szT Tryz.prog 50 = 6 ∧ aggT Tryz.prog 50 = true ∧ zeroT Tryz.prog 50 = some (.agg #[.string ⟨#[]⟩, .int Go.IntKind.i64 (0), .int Go.IntKind.i64 (0), .int Go.IntKind.i64 (0), .string ⟨#[]⟩, .slice none 0 0]) ∧ Program.bytesOf Tryz.prog 50 = 80 ∧ slT Tryz.prog 50 = false ∧ strT Tryz.prog 50 = false ∧ offT Tryz.prog 50 0 = some 0 ∧ offT Tryz.prog 50 1 = some 1 ∧ placeT Tryz.prog 50 = some (fun i => (#[(0, 1), (1, 5)] : Array (Nat × Nat))[i]?) := by and_intros <;> kernel_rfl
theorem t70 : okT Tryz.prog 70 = true ∧ szT Tryz.prog 70 = 1 ∧ aggT Tryz.prog 70 = false ∧ zeroT Tryz.prog 70 = some (.map none) ∧ Program.bytesOf Tryz.prog 70 = 8 ∧ slT Tryz.prog 70 = false ∧ strT Tryz.prog 70 = false := by and_intros <;> kernel_rfl
theorem t72 : okT Tryz.prog 72 = true ∧ szT Tryz.prog 72 = 1 ∧ aggT Tryz.prog 72 = false ∧ zeroT Tryz.prog 72 = some (.pointer none) ∧ Program.bytesOf Tryz.prog 72 = 8 ∧ slT Tryz.prog 72 = false ∧ strT Tryz.prog 72 = false ∧ Program.underlying Tryz.prog 72 = some (.pointer 74) := by and_intros <;> kernel_rfl
theorem t73 : okT Tryz.prog 73 = true ∧ szT Tryz.prog 73 = 2 ∧ aggT Tryz.prog 73 = true ∧ zeroT Tryz.prog 73 = some (.agg #[.slice none 0 0, .bool false]) ∧ Program.bytesOf Tryz.prog 73 = 32 ∧ slT Tryz.prog 73 = false ∧ strT Tryz.prog 73 = false ∧ offT Tryz.prog 73 0 = some 0 ∧ offT Tryz.prog 73 1 = some 1 ∧ placeT Tryz.prog 73 = some (fun i => (#[(0, 1), (1, 1)] : Array (Nat × Nat))[i]?) := by and_intros <;> kernel_rfl
theorem t74 : okT Tryz.prog 74 = true ∧ szT Tryz.prog 74 = 2 ∧ aggT Tryz.prog 74 = true ∧ zeroT Tryz.prog 74 = some (.agg #[.slice none 0 0, .bool false]) ∧ Program.bytesOf Tryz.prog 74 = 32 ∧ slT Tryz.prog 74 = false ∧ strT Tryz.prog 74 = false ∧ offT Tryz.prog 74 0 = some 0 ∧ offT Tryz.prog 74 1 = some 1 ∧ placeT Tryz.prog 74 = some (fun i => (#[(0, 1), (1, 1)] : Array (Nat × Nat))[i]?) := by and_intros <;> kernel_rfl
theorem t86 : okT Tryz.prog 86 = true ∧ szT Tryz.prog 86 = 1 ∧ aggT Tryz.prog 86 = false ∧ zeroT Tryz.prog 86 = some (.map none) ∧ Program.bytesOf Tryz.prog 86 = 8 ∧ slT Tryz.prog 86 = false ∧ strT Tryz.prog 86 = false := by and_intros <;> kernel_rfl
theorem t87 : okT Tryz.prog 87 = true ∧ szT Tryz.prog 87 = 1 ∧ aggT Tryz.prog 87 = false ∧ zeroT Tryz.prog 87 = some (.map none) ∧ Program.bytesOf Tryz.prog 87 = 8 ∧ slT Tryz.prog 87 = false ∧ strT Tryz.prog 87 = false := by and_intros <;> kernel_rfl
theorem t88 : okT Tryz.prog 88 = true ∧ szT Tryz.prog 88 = 1 ∧ aggT Tryz.prog 88 = false ∧ zeroT Tryz.prog 88 = some (.slice none 0 0) ∧ Program.bytesOf Tryz.prog 88 = 24 ∧ slT Tryz.prog 88 = true ∧ Program.elem Tryz.prog 88 = 9 ∧ strT Tryz.prog 88 = false := by and_intros <;> kernel_rfl
theorem t100 : okT Tryz.prog 100 = true ∧ szT Tryz.prog 100 = 1 ∧ aggT Tryz.prog 100 = false ∧ zeroT Tryz.prog 100 = some (.slice none 0 0) ∧ Program.bytesOf Tryz.prog 100 = 24 ∧ slT Tryz.prog 100 = true ∧ Program.elem Tryz.prog 100 = 69 ∧ strT Tryz.prog 100 = false := by and_intros <;> kernel_rfl
theorem t103 : okT Tryz.prog 103 = true ∧ szT Tryz.prog 103 = 3 ∧ aggT Tryz.prog 103 = true ∧ zeroT Tryz.prog 103 = some (.agg #[.int Go.IntKind.i64 (0), .int Go.IntKind.i64 (0), .string ⟨#[]⟩]) ∧ Program.bytesOf Tryz.prog 103 = 32 ∧ slT Tryz.prog 103 = false ∧ strT Tryz.prog 103 = false ∧ offT Tryz.prog 103 0 = some 0 ∧ offT Tryz.prog 103 1 = some 1 ∧ offT Tryz.prog 103 2 = some 2 ∧ placeT Tryz.prog 103 = some (fun i => (#[(0, 1), (1, 1), (2, 1)] : Array (Nat × Nat))[i]?) := by and_intros <;> kernel_rfl
theorem t104 : okT Tryz.prog 104 = true ∧ szT Tryz.prog 104 = 3 ∧ aggT Tryz.prog 104 = true ∧ zeroT Tryz.prog 104 = some (.agg #[.int Go.IntKind.i64 (0), .int Go.IntKind.i64 (0), .string ⟨#[]⟩]) ∧ Program.bytesOf Tryz.prog 104 = 32 ∧ slT Tryz.prog 104 = false ∧ strT Tryz.prog 104 = false ∧ offT Tryz.prog 104 0 = some 0 ∧ offT Tryz.prog 104 1 = some 1 ∧ offT Tryz.prog 104 2 = some 2 ∧ placeT Tryz.prog 104 = some (fun i => (#[(0, 1), (1, 1), (2, 1)] : Array (Nat × Nat))[i]?) := by and_intros <;> kernel_rfl
theorem t105 : okT Tryz.prog 105 = true ∧ szT Tryz.prog 105 = 5 ∧ aggT Tryz.prog 105 = true ∧ zeroT Tryz.prog 105 = some (.agg #[.string ⟨#[]⟩, .string ⟨#[]⟩, .int Go.IntKind.i64 (0), .int Go.IntKind.i64 (0), .string ⟨#[]⟩]) ∧ Program.bytesOf Tryz.prog 105 = 64 ∧ slT Tryz.prog 105 = false ∧ strT Tryz.prog 105 = false ∧ offT Tryz.prog 105 0 = some 0 ∧ offT Tryz.prog 105 1 = some 1 ∧ offT Tryz.prog 105 2 = some 2 ∧ placeT Tryz.prog 105 = some (fun i => (#[(0, 1), (1, 1), (2, 3)] : Array (Nat × Nat))[i]?) := by and_intros <;> kernel_rfl
theorem t106 : okT Tryz.prog 106 = true ∧ szT Tryz.prog 106 = 5 ∧ aggT Tryz.prog 106 = true ∧ zeroT Tryz.prog 106 = some (.agg #[.string ⟨#[]⟩, .string ⟨#[]⟩, .int Go.IntKind.i64 (0), .int Go.IntKind.i64 (0), .string ⟨#[]⟩]) ∧ Program.bytesOf Tryz.prog 106 = 64 ∧ slT Tryz.prog 106 = false ∧ strT Tryz.prog 106 = false ∧ offT Tryz.prog 106 0 = some 0 ∧ offT Tryz.prog 106 1 = some 1 ∧ offT Tryz.prog 106 2 = some 2 ∧ placeT Tryz.prog 106 = some (fun i => (#[(0, 1), (1, 1), (2, 3)] : Array (Nat × Nat))[i]?) := by and_intros <;> kernel_rfl
theorem t107 : okT Tryz.prog 107 = true ∧ szT Tryz.prog 107 = 11 ∧ aggT Tryz.prog 107 = true ∧ zeroT Tryz.prog 107 = some (.agg #[.string ⟨#[]⟩, .string ⟨#[]⟩, .int Go.IntKind.i64 (0), .int Go.IntKind.i64 (0), .string ⟨#[]⟩, .int Go.IntKind.i64 (0), .string ⟨#[]⟩, .string ⟨#[]⟩, .int Go.IntKind.i64 (0), .int Go.IntKind.i64 (0), .string ⟨#[]⟩]) ∧ Program.bytesOf Tryz.prog 107 = 136 ∧ slT Tryz.prog 107 = false ∧ strT Tryz.prog 107 = false ∧ offT Tryz.prog 107 0 = some 0 ∧ offT Tryz.prog 107 1 = some 5 ∧ offT Tryz.prog 107 2 = some 6 ∧ placeT Tryz.prog 107 = some (fun i => (#[(0, 5), (5, 1), (6, 5)] : Array (Nat × Nat))[i]?) := by and_intros <;> kernel_rfl
theorem t108 : okT Tryz.prog 108 = true ∧ szT Tryz.prog 108 = 11 ∧ aggT Tryz.prog 108 = true ∧ zeroT Tryz.prog 108 = some (.agg #[.string ⟨#[]⟩, .string ⟨#[]⟩, .int Go.IntKind.i64 (0), .int Go.IntKind.i64 (0), .string ⟨#[]⟩, .int Go.IntKind.i64 (0), .string ⟨#[]⟩, .string ⟨#[]⟩, .int Go.IntKind.i64 (0), .int Go.IntKind.i64 (0), .string ⟨#[]⟩]) ∧ Program.bytesOf Tryz.prog 108 = 136 ∧ slT Tryz.prog 108 = false ∧ strT Tryz.prog 108 = false ∧ offT Tryz.prog 108 0 = some 0 ∧ offT Tryz.prog 108 1 = some 5 ∧ offT Tryz.prog 108 2 = some 6 ∧ placeT Tryz.prog 108 = some (fun i => (#[(0, 5), (5, 1), (6, 5)] : Array (Nat × Nat))[i]?) := by and_intros <;> kernel_rfl
theorem t113 : okT Tryz.prog 113 = true ∧ szT Tryz.prog 113 = 1 ∧ aggT Tryz.prog 113 = false ∧ zeroT Tryz.prog 113 = some (.int Go.IntKind.u64 (0)) ∧ Program.bytesOf Tryz.prog 113 = 8 ∧ slT Tryz.prog 113 = false ∧ strT Tryz.prog 113 = false := by and_intros <;> kernel_rfl
theorem t117 : okT Tryz.prog 117 = true ∧ szT Tryz.prog 117 = 1 ∧ aggT Tryz.prog 117 = false ∧ zeroT Tryz.prog 117 = some (.slice none 0 0) ∧ Program.bytesOf Tryz.prog 117 = 24 ∧ slT Tryz.prog 117 = true ∧ Program.elem Tryz.prog 117 = 5 ∧ strT Tryz.prog 117 = false := by and_intros <;> kernel_rfl
theorem t118 : okT Tryz.prog 118 = true ∧ szT Tryz.prog 118 = 4 ∧ aggT Tryz.prog 118 = true ∧ zeroT Tryz.prog 118 = some (.agg #[.string ⟨#[]⟩, .int Go.IntKind.i64 (0), .int Go.IntKind.i64 (0), .string ⟨#[]⟩]) ∧ Program.bytesOf Tryz.prog 118 = 48 ∧ slT Tryz.prog 118 = false ∧ strT Tryz.prog 118 = false ∧ offT Tryz.prog 118 0 = some 0 ∧ offT Tryz.prog 118 1 = some 1 ∧ placeT Tryz.prog 118 = some (fun i => (#[(0, 1), (1, 3)] : Array (Nat × Nat))[i]?) := by and_intros <;> kernel_rfl
theorem t119 : okT Tryz.prog 119 = true ∧ szT Tryz.prog 119 = 4 ∧ aggT Tryz.prog 119 = true ∧ zeroT Tryz.prog 119 = some (.agg #[.string ⟨#[]⟩, .int Go.IntKind.i64 (0), .int Go.IntKind.i64 (0), .string ⟨#[]⟩]) ∧ Program.bytesOf Tryz.prog 119 = 48 ∧ slT Tryz.prog 119 = false ∧ strT Tryz.prog 119 = false ∧ offT Tryz.prog 119 0 = some 0 ∧ offT Tryz.prog 119 1 = some 1 ∧ placeT Tryz.prog 119 = some (fun i => (#[(0, 1), (1, 3)] : Array (Nat × Nat))[i]?) := by and_intros <;> kernel_rfl
theorem t139 : okT Tryz.prog 139 = true ∧ szT Tryz.prog 139 = 1 ∧ aggT Tryz.prog 139 = false ∧ zeroT Tryz.prog 139 = some (.slice none 0 0) ∧ Program.bytesOf Tryz.prog 139 = 24 ∧ slT Tryz.prog 139 = true ∧ Program.elem Tryz.prog 139 = 2 ∧ strT Tryz.prog 139 = false := by and_intros <;> kernel_rfl
theorem t151 : okT Tryz.prog 151 = true ∧ szT Tryz.prog 151 = 1 ∧ aggT Tryz.prog 151 = false ∧ zeroT Tryz.prog 151 = some (.int Go.IntKind.u64 (0)) ∧ Program.bytesOf Tryz.prog 151 = 8 ∧ slT Tryz.prog 151 = false ∧ strT Tryz.prog 151 = false := by and_intros <;> kernel_rfl
theorem t169 : okT Tryz.prog 169 = true ∧ szT Tryz.prog 169 = 1 ∧ aggT Tryz.prog 169 = false ∧ zeroT Tryz.prog 169 = some (.int Go.IntKind.i64 (0)) ∧ Program.bytesOf Tryz.prog 169 = 8 ∧ slT Tryz.prog 169 = false ∧ strT Tryz.prog 169 = false := by and_intros <;> kernel_rfl
theorem t176 : okT Tryz.prog 176 = true ∧ szT Tryz.prog 176 = 1 ∧ aggT Tryz.prog 176 = false ∧ zeroT Tryz.prog 176 = some (.int Go.IntKind.u32 (0)) ∧ Program.bytesOf Tryz.prog 176 = 4 ∧ slT Tryz.prog 176 = false ∧ strT Tryz.prog 176 = false := by and_intros <;> kernel_rfl
theorem t178 : okT Tryz.prog 178 = true ∧ szT Tryz.prog 178 = 1 ∧ aggT Tryz.prog 178 = false ∧ zeroT Tryz.prog 178 = some (.slice none 0 0) ∧ Program.bytesOf Tryz.prog 178 = 24 ∧ slT Tryz.prog 178 = true ∧ Program.elem Tryz.prog 178 = 3 ∧ strT Tryz.prog 178 = false := by and_intros <;> kernel_rfl
theorem t181 : okT Tryz.prog 181 = true ∧ szT Tryz.prog 181 = 1 ∧ aggT Tryz.prog 181 = false ∧ zeroT Tryz.prog 181 = some (.slice none 0 0) ∧ Program.bytesOf Tryz.prog 181 = 24 ∧ slT Tryz.prog 181 = true ∧ Program.elem Tryz.prog 181 = 38 ∧ strT Tryz.prog 181 = false := by and_intros <;> kernel_rfl
theorem t188 : okT Tryz.prog 188 = true ∧ szT Tryz.prog 188 = 1 ∧ aggT Tryz.prog 188 = false ∧ zeroT Tryz.prog 188 = some (.int Go.IntKind.u64 (0)) ∧ Program.bytesOf Tryz.prog 188 = 8 ∧ slT Tryz.prog 188 = false ∧ strT Tryz.prog 188 = false := by and_intros <;> kernel_rfl
theorem t192 : okT Tryz.prog 192 = true ∧ szT Tryz.prog 192 = 1 ∧ aggT Tryz.prog 192 = false ∧ zeroT Tryz.prog 192 = some (.pointer none) ∧ Program.bytesOf Tryz.prog 192 = 8 ∧ slT Tryz.prog 192 = false ∧ strT Tryz.prog 192 = false ∧ Program.underlying Tryz.prog 192 = some (.pointer 3) := by and_intros <;> kernel_rfl
theorem t203 : okT Tryz.prog 203 = true ∧ szT Tryz.prog 203 = 1 ∧ aggT Tryz.prog 203 = false ∧ zeroT Tryz.prog 203 = some (.pointer none) ∧ Program.bytesOf Tryz.prog 203 = 8 ∧ slT Tryz.prog 203 = false ∧ strT Tryz.prog 203 = false ∧ Program.underlying Tryz.prog 203 = some (.pointer 188) := by and_intros <;> kernel_rfl
theorem t210 : okT Tryz.prog 210 = true ∧ szT Tryz.prog 210 = 4 ∧ aggT Tryz.prog 210 = true ∧ zeroT Tryz.prog 210 = some (.agg #[.pointer none, .pointer none, .pointer none, .string ⟨#[]⟩]) ∧ Program.bytesOf Tryz.prog 210 = 40 ∧ slT Tryz.prog 210 = false ∧ strT Tryz.prog 210 = false ∧ offT Tryz.prog 210 0 = some 0 ∧ offT Tryz.prog 210 1 = some 1 ∧ offT Tryz.prog 210 2 = some 2 ∧ offT Tryz.prog 210 3 = some 3 ∧ placeT Tryz.prog 210 = some (fun i => (#[(0, 1), (1, 1), (2, 1), (3, 1)] : Array (Nat × Nat))[i]?) := by and_intros <;> kernel_rfl
theorem t211 : okT Tryz.prog 211 = true ∧ szT Tryz.prog 211 = 4 ∧ aggT Tryz.prog 211 = true ∧ zeroT Tryz.prog 211 = some (.agg #[.pointer none, .pointer none, .pointer none, .string ⟨#[]⟩]) ∧ Program.bytesOf Tryz.prog 211 = 40 ∧ slT Tryz.prog 211 = false ∧ strT Tryz.prog 211 = false ∧ offT Tryz.prog 211 0 = some 0 ∧ offT Tryz.prog 211 1 = some 1 ∧ offT Tryz.prog 211 2 = some 2 ∧ offT Tryz.prog 211 3 = some 3 ∧ placeT Tryz.prog 211 = some (fun i => (#[(0, 1), (1, 1), (2, 1), (3, 1)] : Array (Nat × Nat))[i]?) := by and_intros <;> kernel_rfl
theorem t212 : okT Tryz.prog 212 = true ∧ szT Tryz.prog 212 = 0 ∧ aggT Tryz.prog 212 = true ∧ zeroT Tryz.prog 212 = some (.agg #[]) ∧ Program.bytesOf Tryz.prog 212 = 0 ∧ slT Tryz.prog 212 = false ∧ strT Tryz.prog 212 = false ∧ Program.underlying Tryz.prog 212 = some (.array 0 16) ∧ placeT Tryz.prog 212 = some (fun i => some (i * 1, 1)) := by and_intros <;> kernel_rfl
theorem t213 : okT Tryz.prog 213 = true ∧ szT Tryz.prog 213 = 0 ∧ aggT Tryz.prog 213 = true ∧ zeroT Tryz.prog 213 = some (.agg #[]) ∧ Program.bytesOf Tryz.prog 213 = 0 ∧ slT Tryz.prog 213 = false ∧ strT Tryz.prog 213 = false ∧ offT Tryz.prog 213 0 = none ∧ placeT Tryz.prog 213 = some (fun i => (#[(0, 0)] : Array (Nat × Nat))[i]?) := by and_intros <;> kernel_rfl
theorem t214 : okT Tryz.prog 214 = true ∧ szT Tryz.prog 214 = 0 ∧ aggT Tryz.prog 214 = true ∧ zeroT Tryz.prog 214 = some (.agg #[]) ∧ Program.bytesOf Tryz.prog 214 = 0 ∧ slT Tryz.prog 214 = false ∧ strT Tryz.prog 214 = false ∧ offT Tryz.prog 214 0 = none ∧ placeT Tryz.prog 214 = some (fun i => (#[(0, 0)] : Array (Nat × Nat))[i]?) := by and_intros <;> kernel_rfl
theorem t216 : okT Tryz.prog 216 = true ∧ szT Tryz.prog 216 = 1 ∧ aggT Tryz.prog 216 = false ∧ zeroT Tryz.prog 216 = some (.int Go.IntKind.u8 (0)) ∧ Program.bytesOf Tryz.prog 216 = 1 ∧ slT Tryz.prog 216 = false ∧ strT Tryz.prog 216 = false := by and_intros <;> kernel_rfl
theorem t217 : okT Tryz.prog 217 = true ∧ szT Tryz.prog 217 = 1 ∧ aggT Tryz.prog 217 = false ∧ zeroT Tryz.prog 217 = some (.int Go.IntKind.u8 (0)) ∧ Program.bytesOf Tryz.prog 217 = 1 ∧ slT Tryz.prog 217 = false ∧ strT Tryz.prog 217 = false := by and_intros <;> kernel_rfl
theorem t219 : okT Tryz.prog 219 = true ∧ szT Tryz.prog 219 = 1 ∧ aggT Tryz.prog 219 = false ∧ zeroT Tryz.prog 219 = some (.pointer none) ∧ Program.bytesOf Tryz.prog 219 = 8 ∧ slT Tryz.prog 219 = false ∧ strT Tryz.prog 219 = false ∧ Program.underlying Tryz.prog 219 = some (.pointer 5) := by and_intros <;> kernel_rfl
theorem t220 : okT Tryz.prog 220 = true ∧ szT Tryz.prog 220 = 1 ∧ aggT Tryz.prog 220 = false ∧ zeroT Tryz.prog 220 = some (.int Go.IntKind.i32 (0)) ∧ Program.bytesOf Tryz.prog 220 = 4 ∧ slT Tryz.prog 220 = false ∧ strT Tryz.prog 220 = false := by and_intros <;> kernel_rfl
theorem t221 : okT Tryz.prog 221 = true ∧ szT Tryz.prog 221 = 1 ∧ aggT Tryz.prog 221 = false ∧ zeroT Tryz.prog 221 = some (.int Go.IntKind.i32 (0)) ∧ Program.bytesOf Tryz.prog 221 = 4 ∧ slT Tryz.prog 221 = false ∧ strT Tryz.prog 221 = false := by and_intros <;> kernel_rfl
theorem t222 : okT Tryz.prog 222 = true ∧ szT Tryz.prog 222 = 11 ∧ aggT Tryz.prog 222 = true ∧ zeroT Tryz.prog 222 = some (.agg #[.int Go.IntKind.u64 (0), .int Go.IntKind.u64 (0), .int Go.IntKind.u32 (0), .int Go.IntKind.u8 (0), .int Go.IntKind.u8 (0), .int Go.IntKind.u8 (0), .int Go.IntKind.u8 (0), .nilFunc, .pointer none, .int Go.IntKind.i32 (0), .int Go.IntKind.i32 (0)]) ∧ Program.bytesOf Tryz.prog 222 = 48 ∧ slT Tryz.prog 222 = false ∧ strT Tryz.prog 222 = false ∧ offT Tryz.prog 222 0 = some 0 ∧ offT Tryz.prog 222 1 = some 1 ∧ offT Tryz.prog 222 2 = some 2 ∧ offT Tryz.prog 222 3 = some 3 ∧ offT Tryz.prog 222 4 = some 4 ∧ offT Tryz.prog 222 5 = some 5 ∧ offT Tryz.prog 222 6 = some 6 ∧ offT Tryz.prog 222 7 = some 7 ∧ offT Tryz.prog 222 8 = some 8 ∧ offT Tryz.prog 222 9 = some 9 ∧ offT Tryz.prog 222 10 = some 10 ∧ placeT Tryz.prog 222 = some (fun i => (#[(0, 1), (1, 1), (2, 1), (3, 1), (4, 1), (5, 1), (6, 1), (7, 1), (8, 1), (9, 1), (10, 1)] : Array (Nat × Nat))[i]?) := by and_intros <;> kernel_rfl
theorem t223 : okT Tryz.prog 223 = true ∧ szT Tryz.prog 223 = 11 ∧ aggT Tryz.prog 223 = true ∧ zeroT Tryz.prog 223 = some (.agg #[.int Go.IntKind.u64 (0), .int Go.IntKind.u64 (0), .int Go.IntKind.u32 (0), .int Go.IntKind.u8 (0), .int Go.IntKind.u8 (0), .int Go.IntKind.u8 (0), .int Go.IntKind.u8 (0), .nilFunc, .pointer none, .int Go.IntKind.i32 (0), .int Go.IntKind.i32 (0)]) ∧ Program.bytesOf Tryz.prog 223 = 48 ∧ slT Tryz.prog 223 = false ∧ strT Tryz.prog 223 = false ∧ offT Tryz.prog 223 0 = some 0 ∧ offT Tryz.prog 223 1 = some 1 ∧ offT Tryz.prog 223 2 = some 2 ∧ offT Tryz.prog 223 3 = some 3 ∧ offT Tryz.prog 223 4 = some 4 ∧ offT Tryz.prog 223 5 = some 5 ∧ offT Tryz.prog 223 6 = some 6 ∧ offT Tryz.prog 223 7 = some 7 ∧ offT Tryz.prog 223 8 = some 8 ∧ offT Tryz.prog 223 9 = some 9 ∧ offT Tryz.prog 223 10 = some 10 ∧ placeT Tryz.prog 223 = some (fun i => (#[(0, 1), (1, 1), (2, 1), (3, 1), (4, 1), (5, 1), (6, 1), (7, 1), (8, 1), (9, 1), (10, 1)] : Array (Nat × Nat))[i]?) := by and_intros <;> kernel_rfl
theorem tc : cnvT Tryz.prog 5 3 = .toInt .i64 ∧ cnvT Tryz.prog 2 113 = .toInt .u64 ∧ cnvT Tryz.prog 9 117 = .toBytes 5 ∧ cnvT Tryz.prog 3 151 = .toInt .u64 ∧ cnvT Tryz.prog 151 176 = .toInt .u32 ∧ cnvT Tryz.prog 3 188 = .toInt .u64 ∧ cnvT Tryz.prog 151 3 = .toInt .i64 ∧ cnvT Tryz.prog 176 5 = .toInt .u8 ∧ cnvT Tryz.prog 113 5 = .toInt .u8 := by and_intros <;> kernel_rfl
def tt := (And.intro (And.intro (And.intro (And.intro (And.intro (And.intro t2 t3) (And.intro t4 t5)) (And.intro (And.intro t6 t7) (And.intro t8 (And.intro t9 t10)))) (And.intro (And.intro (And.intro t11 t12) (And.intro t13 (And.intro t14 t15))) (And.intro (And.intro t16 t17) (And.intro t18 (And.intro t19 t21))))) (And.intro (And.intro (And.intro (And.intro t22 t23) (And.intro t24 (And.intro t25 t26))) (And.intro (And.intro t29 t30) (And.intro t36 (And.intro t37 t38)))) (And.intro (And.intro (And.intro t39 t40) (And.intro t44 (And.intro t45 t46))) (And.intro (And.intro t47 t48) (And.intro t49 (And.intro t50 t70)))))) (And.intro (And.intro (And.intro (And.intro (And.intro t72 t73) (And.intro t74 t86)) (And.intro (And.intro t87 t88) (And.intro t100 (And.intro t103 t104)))) (And.intro (And.intro (And.intro t105 t106) (And.intro t107 (And.intro t108 t113))) (And.intro (And.intro t117 t118) (And.intro t119 (And.intro t139 t151))))) (And.intro (And.intro (And.intro (And.intro t169 t176) (And.intro t178 (And.intro t181 t188))) (And.intro (And.intro t192 t203) (And.intro t210 (And.intro t211 t212)))) (And.intro (And.intro (And.intro t213 t214) (And.intro t216 (And.intro t217 t219))) (And.intro (And.intro t220 t221) (And.intro t222 (And.intro t223 tc)))))))
end Go.Abs.M
namespace Go.Abs.M
open Go Go.Abs Go.Proofs
set_option maxRecDepth 20000
theorem J2 {a b : Prop} (xa : a) (xb : b) : a ∧ b := ⟨xa, xb⟩
theorem J3 {a b c : Prop} (xa : a) (xb : b) (xc : c) : a ∧ b ∧ c := ⟨xa, ⟨xb, xc⟩⟩
theorem J4 {a b c d : Prop} (xa : a) (xb : b) (xc : c) (xd : d) : a ∧ b ∧ c ∧ d := ⟨xa, ⟨xb, ⟨xc, xd⟩⟩⟩
theorem J5 {a b c d e : Prop} (xa : a) (xb : b) (xc : c) (xd : d) (xe : e) : a ∧ b ∧ c ∧ d ∧ e := ⟨xa, ⟨xb, ⟨xc, ⟨xd, xe⟩⟩⟩⟩
theorem J6 {a b c d e f : Prop} (xa : a) (xb : b) (xc : c) (xd : d) (xe : e) (xf : f) : a ∧ b ∧ c ∧ d ∧ e ∧ f := ⟨xa, ⟨xb, ⟨xc, ⟨xd, ⟨xe, xf⟩⟩⟩⟩⟩
theorem J7 {a b c d e f g : Prop} (xa : a) (xb : b) (xc : c) (xd : d) (xe : e) (xf : f) (xg : g) : a ∧ b ∧ c ∧ d ∧ e ∧ f ∧ g := ⟨xa, ⟨xb, ⟨xc, ⟨xd, ⟨xe, ⟨xf, xg⟩⟩⟩⟩⟩⟩
theorem J8 {a b c d e f g h : Prop} (xa : a) (xb : b) (xc : c) (xd : d) (xe : e) (xf : f) (xg : g) (xh : h) : a ∧ b ∧ c ∧ d ∧ e ∧ f ∧ g ∧ h := ⟨xa, ⟨xb, ⟨xc, ⟨xd, ⟨xe, ⟨xf, ⟨xg, xh⟩⟩⟩⟩⟩⟩⟩
theorem J9 {a b c d e f g h i : Prop} (xa : a) (xb : b) (xc : c) (xd : d) (xe : e) (xf : f) (xg : g) (xh : h) (xi : i) : a ∧ b ∧ c ∧ d ∧ e ∧ f ∧ g ∧ h ∧ i := ⟨xa, ⟨xb, ⟨xc, ⟨xd, ⟨xe, ⟨xf, ⟨xg, ⟨xh, xi⟩⟩⟩⟩⟩⟩⟩⟩
theorem J10 {a b c d e f g h i j : Prop} (xa : a) (xb : b) (xc : c) (xd : d) (xe : e) (xf : f) (xg : g) (xh : h) (xi : i) (xj : j) : a ∧ b ∧ c ∧ d ∧ e ∧ f ∧ g ∧ h ∧ i ∧ j := ⟨xa, ⟨xb, ⟨xc, ⟨xd, ⟨xe, ⟨xf, ⟨xg, ⟨xh, ⟨xi, xj⟩⟩⟩⟩⟩⟩⟩⟩⟩
theorem J11 {a b c d e f g h i j k : Prop} (xa : a) (xb : b) (xc : c) (xd : d) (xe : e) (xf : f) (xg : g) (xh : h) (xi : i) (xj : j) (xk : k) : a ∧ b ∧ c ∧ d ∧ e ∧ f ∧ g ∧ h ∧ i ∧ j ∧ k := ⟨xa, ⟨xb, ⟨xc, ⟨xd, ⟨xe, ⟨xf, ⟨xg, ⟨xh, ⟨xi, ⟨xj, xk⟩⟩⟩⟩⟩⟩⟩⟩⟩⟩
theorem J12 {a b c d e f g h i j k l : Prop} (xa : a) (xb : b) (xc : c) (xd : d) (xe : e) (xf : f) (xg : g) (xh : h) (xi : i) (xj : j) (xk : k) (xl : l) : a ∧ b ∧ c ∧ d ∧ e ∧ f ∧ g ∧ h ∧ i ∧ j ∧ k ∧ l := ⟨xa, ⟨xb, ⟨xc, ⟨xd, ⟨xe, ⟨xf, ⟨xg, ⟨xh, ⟨xi, ⟨xj, ⟨xk, xl⟩⟩⟩⟩⟩⟩⟩⟩⟩⟩⟩
section
variable {P : Program} {T : Tab} {n id i kk : Nat} {s s' : St} {σ σ' : Hp} {K : St → Hp → Prop} {ds : List (Option Nat)} {o : Oper} {r l ops : List Oper} {q : List (Nat × Nat)} {qt : Tr} {qf : Tf} {Q : Exit → St → Hp → Prop} {y : Code} {A : Prop} [Mode]
theorem S.rn (e : A) (k : K s' σ') (h : A → ∀ K' : St → Hp → Prop, K' s' σ' → semL P T n ds l K' s σ := by
    intro e K' k'
    repeat (first
      | (refine S.g rfl rfl fun Y Z => ?_; simp only [zz, tt, reduceIte, Nat.reduceEqDiff, Nat.reduceLT, Nat.reduceLeDiff, Nat.reduceAdd, reduceCtorEq, Nat.reduceMul, e]; refine Z _ _ ?_; clear Z Y)
      | (refine S.y rfl rfl rfl rfl fun Y Z => ?_; simp only [zz, tt, reduceIte, Nat.reduceEqDiff, Nat.reduceLT, Nat.reduceLeDiff, Nat.reduceAdd, reduceCtorEq, Nat.reduceMul, e]; refine Z _ _ ?_; clear Z Y)
      | ((first | refine S.x rfl rfl rfl rfl fun Y Z => ?_ | refine S.u rfl rfl rfl rfl fun Y Z => ?_); simp only [ze, reduceIte, Nat.reduceEqDiff, Nat.reduceLT, Nat.reduceLeDiff, Nat.reduceAdd, reduceCtorEq, Nat.reduceMul]; refine Z _ _ ?_; clear Z Y))
    refine S.nil ?_
    exact k') : semL P T n ds l K s σ := h e K k
theorem AW.sr (e : A) (k : AW P n y Q s' σ') (h : A → ∀ K' : St → Hp → Prop, K' s' σ' → semL P {} n (l.map (·.dst)) l K' s σ := by
    intro e K' k'
    repeat (first
      | (refine S.g rfl rfl fun Y Z => ?_; simp only [zz, tt, reduceIte, Nat.reduceEqDiff, Nat.reduceLT, Nat.reduceLeDiff, Nat.reduceAdd, reduceCtorEq, Nat.reduceMul, e]; refine Z _ _ ?_; clear Z Y)
      | (refine S.y rfl rfl rfl rfl fun Y Z => ?_; simp only [zz, tt, reduceIte, Nat.reduceEqDiff, Nat.reduceLT, Nat.reduceLeDiff, Nat.reduceAdd, reduceCtorEq, Nat.reduceMul, e]; refine Z _ _ ?_; clear Z Y)
      | ((first | refine S.x rfl rfl rfl rfl fun Y Z => ?_ | refine S.u rfl rfl rfl rfl fun Y Z => ?_); simp only [ze, reduceIte, Nat.reduceEqDiff, Nat.reduceLT, Nat.reduceLeDiff, Nat.reduceAdd, reduceCtorEq, Nat.reduceMul]; refine Z _ _ ?_; clear Z Y))
    refine S.nil ?_
    exact k') : AW P n (.seq (.region id l.toArray false) y) Q s σ := .seq (.reg0 (h e _ k))
theorem S.one (e : A) (k : semL P T n ds r K s' σ') (h : A → ∀ K' : St → Hp → Prop, K' s' σ' → semL P T n ds [o] K' s σ := by
    intro e K' k'
    first
      | (refine S.g rfl rfl fun Y Z => ?_; simp only [zz, tt, reduceIte, Nat.reduceEqDiff, Nat.reduceLT, Nat.reduceLeDiff, Nat.reduceAdd, reduceCtorEq, Nat.reduceMul, e]; refine Z _ _ (S.nil ?_); exact k')
      | (refine S.y rfl rfl rfl rfl fun Y Z => ?_; simp only [zz, tt, reduceIte, Nat.reduceEqDiff, Nat.reduceLT, Nat.reduceLeDiff, Nat.reduceAdd, reduceCtorEq, Nat.reduceMul, e]; refine Z _ _ (S.nil ?_); exact k')
      | ((first | refine S.x rfl rfl rfl rfl fun Y Z => ?_ | refine S.u rfl rfl rfl rfl fun Y Z => ?_); simp only [ze, reduceIte, Nat.reduceEqDiff, Nat.reduceLT, Nat.reduceLeDiff, Nat.reduceAdd, reduceCtorEq, Nat.reduceMul]; refine Z _ _ (S.nil ?_); exact k')) : semL P T n ds (o :: r) K s σ := h e _ k
theorem D.one (e : A) (k : semD P T n ops ds q K s' σ') (h : A → ∀ K' : St → Hp → Prop, K' s' σ' → semD P T n ops ds [(i, kk)] K' s σ := by
    intro e K' k'
    first
      | (refine D.g rfl (by first | exact True.intro | rfl | (simp only [stC, ze, simprocAttr, e]; first | done | rfl)) rfl rfl fun Y Z => ?_; simp only [zz, tt, reduceIte, Nat.reduceEqDiff, Nat.reduceLT, Nat.reduceLeDiff, Nat.reduceAdd, reduceCtorEq, Nat.reduceMul, e]; refine Z _ _ (D.nil ?_); exact k')
      | (refine D.y rfl (by first | exact True.intro | rfl | (simp only [stC, ze, simprocAttr, e]; first | done | rfl)) rfl rfl rfl rfl fun Y Z => ?_; simp only [zz, tt, reduceIte, Nat.reduceEqDiff, Nat.reduceLT, Nat.reduceLeDiff, Nat.reduceAdd, reduceCtorEq, Nat.reduceMul, e]; refine Z _ _ (D.nil ?_); exact k')
      | ((first | refine D.x rfl (by first | (intro h; cases h; done) | (intro _; rfl)) rfl rfl rfl rfl fun Y Z => ?_ | refine D.u rfl (by first | (intro h; cases h; done) | (intro _; rfl)) rfl rfl rfl rfl fun Y Z => ?_); simp only [ze, reduceIte, Nat.reduceEqDiff, Nat.reduceLT, Nat.reduceLeDiff, Nat.reduceAdd, reduceCtorEq, Nat.reduceMul]; refine Z _ _ (D.nil ?_); exact k')) : semD P T n ops ds ((i, kk) :: q) K s σ := h e _ k
theorem T.one (e : A) (k : semT P T n ops ds qt K s' σ') (h : A → ∀ K' : St → Hp → Prop, K' s' σ' → semD P T n ops ds [(i, kk)] K' s σ := by
    intro e K' k'
    first
      | (refine D.g rfl (by first | exact True.intro | rfl | (simp only [stC, ze, simprocAttr, e]; first | done | rfl)) rfl rfl fun Y Z => ?_; simp only [zz, tt, reduceIte, Nat.reduceEqDiff, Nat.reduceLT, Nat.reduceLeDiff, Nat.reduceAdd, reduceCtorEq, Nat.reduceMul, e]; refine Z _ _ (D.nil ?_); exact k')
      | (refine D.y rfl (by first | exact True.intro | rfl | (simp only [stC, ze, simprocAttr, e]; first | done | rfl)) rfl rfl rfl rfl fun Y Z => ?_; simp only [zz, tt, reduceIte, Nat.reduceEqDiff, Nat.reduceLT, Nat.reduceLeDiff, Nat.reduceAdd, reduceCtorEq, Nat.reduceMul, e]; refine Z _ _ (D.nil ?_); exact k')
      | ((first | refine D.x rfl (by first | (intro h; cases h; done) | (intro _; rfl)) rfl rfl rfl rfl fun Y Z => ?_ | refine D.u rfl (by first | (intro h; cases h; done) | (intro _; rfl)) rfl rfl rfl rfl fun Y Z => ?_); simp only [ze, reduceIte, Nat.reduceEqDiff, Nat.reduceLT, Nat.reduceLeDiff, Nat.reduceAdd, reduceCtorEq, Nat.reduceMul]; refine Z _ _ (D.nil ?_); exact k')) : semT P T n ops ds (.st i kk qt) K s σ := h e _ k
theorem F.one (e : A) (k : semF P T n ops ds qf K s' σ') (h : A → ∀ K' : St → Hp → Prop, K' s' σ' → semD P T n ops ds [(i, kk)] K' s σ := by
    intro e K' k'
    first
      | (refine D.g rfl (by first | exact True.intro | rfl | (simp only [stC, ze, simprocAttr, e]; first | done | rfl)) rfl rfl fun Y Z => ?_; simp only [zz, tt, reduceIte, Nat.reduceEqDiff, Nat.reduceLT, Nat.reduceLeDiff, Nat.reduceAdd, reduceCtorEq, Nat.reduceMul, e]; refine Z _ _ (D.nil ?_); exact k')
      | (refine D.y rfl (by first | exact True.intro | rfl | (simp only [stC, ze, simprocAttr, e]; first | done | rfl)) rfl rfl rfl rfl fun Y Z => ?_; simp only [zz, tt, reduceIte, Nat.reduceEqDiff, Nat.reduceLT, Nat.reduceLeDiff, Nat.reduceAdd, reduceCtorEq, Nat.reduceMul, e]; refine Z _ _ (D.nil ?_); exact k')
      | ((first | refine D.x rfl (by first | (intro h; cases h; done) | (intro _; rfl)) rfl rfl rfl rfl fun Y Z => ?_ | refine D.u rfl (by first | (intro h; cases h; done) | (intro _; rfl)) rfl rfl rfl rfl fun Y Z => ?_); simp only [ze, reduceIte, Nat.reduceEqDiff, Nat.reduceLT, Nat.reduceLeDiff, Nat.reduceAdd, reduceCtorEq, Nat.reduceMul]; refine Z _ _ (D.nil ?_); exact k')) : semF P T n ops ds (.st i kk qf) K s σ := h e _ k
theorem S.sp {x : Bool} {s1 : Bool → St} (e : A) (k : ∀ b, x = b → semL P T n ds r K (s1 b) σ') (h : A → ∀ K' : St → Hp → Prop, (∀ b, x = b → K' (s1 b) σ') → semL P T n ds [o] K' s σ := by
    intro e K' k'
    first
      | (refine S.g rfl rfl fun Y Z => ?_; simp only [zz, tt, reduceIte, Nat.reduceEqDiff, Nat.reduceLT, Nat.reduceLeDiff, Nat.reduceAdd, reduceCtorEq, Nat.reduceMul, e]; refine S.bool fun b hb => ?_; refine Z _ _ (S.nil ?_); exact k' b hb)
      | (refine S.y rfl rfl rfl rfl fun Y Z => ?_; simp only [zz, tt, reduceIte, Nat.reduceEqDiff, Nat.reduceLT, Nat.reduceLeDiff, Nat.reduceAdd, reduceCtorEq, Nat.reduceMul, e]; refine S.bool fun b hb => ?_; refine Z _ _ (S.nil ?_); exact k' b hb)) : semL P T n ds (o :: r) K s σ := h e _ k
theorem D.sp {x : Bool} {s1 : Bool → St} (e : A) (k : ∀ b, x = b → semD P T n ops ds q K (s1 b) σ') (h : A → ∀ K' : St → Hp → Prop, (∀ b, x = b → K' (s1 b) σ') → semD P T n ops ds [(i, kk)] K' s σ := by
    intro e K' k'
    first
      | (refine D.g rfl (by first | exact True.intro | rfl | (simp only [stC, ze, simprocAttr, e]; first | done | rfl)) rfl rfl fun Y Z => ?_; simp only [zz, tt, reduceIte, Nat.reduceEqDiff, Nat.reduceLT, Nat.reduceLeDiff, Nat.reduceAdd, reduceCtorEq, Nat.reduceMul, e]; refine S.bool fun b hb => ?_; refine Z _ _ (D.nil ?_); exact k' b hb)
      | (refine D.y rfl (by first | exact True.intro | rfl | (simp only [stC, ze, simprocAttr, e]; first | done | rfl)) rfl rfl rfl rfl fun Y Z => ?_; simp only [zz, tt, reduceIte, Nat.reduceEqDiff, Nat.reduceLT, Nat.reduceLeDiff, Nat.reduceAdd, reduceCtorEq, Nat.reduceMul, e]; refine S.bool fun b hb => ?_; refine Z _ _ (D.nil ?_); exact k' b hb)) : semD P T n ops ds ((i, kk) :: q) K s σ := h e _ k
theorem F.sp {x : Bool} {s1 : Bool → St} (e : A) (k : ∀ b, x = b → semF P T n ops ds qf K (s1 b) σ') (h : A → ∀ K' : St → Hp → Prop, (∀ b, x = b → K' (s1 b) σ') → semD P T n ops ds [(i, kk)] K' s σ := by
    intro e K' k'
    first
      | (refine D.g rfl (by first | exact True.intro | rfl | (simp only [stC, ze, simprocAttr, e]; first | done | rfl)) rfl rfl fun Y Z => ?_; simp only [zz, tt, reduceIte, Nat.reduceEqDiff, Nat.reduceLT, Nat.reduceLeDiff, Nat.reduceAdd, reduceCtorEq, Nat.reduceMul, e]; refine S.bool fun b hb => ?_; refine Z _ _ (D.nil ?_); exact k' b hb)
      | (refine D.y rfl (by first | exact True.intro | rfl | (simp only [stC, ze, simprocAttr, e]; first | done | rfl)) rfl rfl rfl rfl fun Y Z => ?_; simp only [zz, tt, reduceIte, Nat.reduceEqDiff, Nat.reduceLT, Nat.reduceLeDiff, Nat.reduceAdd, reduceCtorEq, Nat.reduceMul, e]; refine S.bool fun b hb => ?_; refine Z _ _ (D.nil ?_); exact k' b hb)) : semF P T n ops ds (.st i kk qf) K s σ := h e _ k
theorem S.cl {f : FuncId} {xs : List V} {u : V} (e : A) (c : PCalls P f xs (fun v => v = u)) (k : semL P T n ds r K s' σ') (h : A → PCalls P f xs (fun v => v = u) → ∀ K' : St → Hp → Prop, K' s' σ' → semL P T n ds [o] K' s σ := by
    intro e c K' k'
    first
      | (refine S.g rfl rfl fun Y Z => ?_; simp only [zz, tt, reduceIte, Nat.reduceEqDiff, Nat.reduceLT, Nat.reduceLeDiff, Nat.reduceAdd, reduceCtorEq, Nat.reduceMul, e]; refine PCalls.eqto c ?_; refine Z _ _ (S.nil ?_); exact k')
      | (refine S.y rfl rfl rfl rfl fun Y Z => ?_; simp only [zz, tt, reduceIte, Nat.reduceEqDiff, Nat.reduceLT, Nat.reduceLeDiff, Nat.reduceAdd, reduceCtorEq, Nat.reduceMul, e]; refine PCalls.eqto c ?_; refine Z _ _ (S.nil ?_); exact k')) : semL P T n ds (o :: r) K s σ := h e c _ k
theorem S.cb {f : FuncId} {xs : List V} {u : V} {x : Bool} {s1 : Bool → St} (e : A) (c : PCalls P f xs (fun v => v = u)) (k : ∀ b, x = b → semL P T n ds r K (s1 b) σ') (h : A → PCalls P f xs (fun v => v = u) → ∀ K' : St → Hp → Prop, (∀ b, x = b → K' (s1 b) σ') → semL P T n ds [o] K' s σ := by
    intro e c K' k'
    first
      | (refine S.g rfl rfl fun Y Z => ?_; simp only [zz, tt, reduceIte, Nat.reduceEqDiff, Nat.reduceLT, Nat.reduceLeDiff, Nat.reduceAdd, reduceCtorEq, Nat.reduceMul, e]; refine PCalls.eqto c ?_; refine S.bool fun b hb => ?_; refine Z _ _ (S.nil ?_); exact k' b hb)
      | (refine S.y rfl rfl rfl rfl fun Y Z => ?_; simp only [zz, tt, reduceIte, Nat.reduceEqDiff, Nat.reduceLT, Nat.reduceLeDiff, Nat.reduceAdd, reduceCtorEq, Nat.reduceMul, e]; refine PCalls.eqto c ?_; refine S.bool fun b hb => ?_; refine Z _ _ (S.nil ?_); exact k' b hb)) : semL P T n ds (o :: r) K s σ := h e c _ k
theorem D.cl {f : FuncId} {xs : List V} {u : V} (e : A) (c : PCalls P f xs (fun v => v = u)) (k : semD P T n ops ds q K s' σ') (h : A → PCalls P f xs (fun v => v = u) → ∀ K' : St → Hp → Prop, K' s' σ' → semD P T n ops ds [(i, kk)] K' s σ := by
    intro e c K' k'
    first
      | (refine D.g rfl (by first | exact True.intro | rfl | (simp only [stC, ze, simprocAttr, e]; first | done | rfl)) rfl rfl fun Y Z => ?_; simp only [zz, tt, reduceIte, Nat.reduceEqDiff, Nat.reduceLT, Nat.reduceLeDiff, Nat.reduceAdd, reduceCtorEq, Nat.reduceMul, e]; refine PCalls.eqto c ?_; refine Z _ _ (D.nil ?_); exact k')
      | (refine D.y rfl (by first | exact True.intro | rfl | (simp only [stC, ze, simprocAttr, e]; first | done | rfl)) rfl rfl rfl rfl fun Y Z => ?_; simp only [zz, tt, reduceIte, Nat.reduceEqDiff, Nat.reduceLT, Nat.reduceLeDiff, Nat.reduceAdd, reduceCtorEq, Nat.reduceMul, e]; refine PCalls.eqto c ?_; refine Z _ _ (D.nil ?_); exact k')) : semD P T n ops ds ((i, kk) :: q) K s σ := h e c _ k
theorem D.cb {f : FuncId} {xs : List V} {u : V} {x : Bool} {s1 : Bool → St} (e : A) (c : PCalls P f xs (fun v => v = u)) (k : ∀ b, x = b → semD P T n ops ds q K (s1 b) σ') (h : A → PCalls P f xs (fun v => v = u) → ∀ K' : St → Hp → Prop, (∀ b, x = b → K' (s1 b) σ') → semD P T n ops ds [(i, kk)] K' s σ := by
    intro e c K' k'
    first
      | (refine D.g rfl (by first | exact True.intro | rfl | (simp only [stC, ze, simprocAttr, e]; first | done | rfl)) rfl rfl fun Y Z => ?_; simp only [zz, tt, reduceIte, Nat.reduceEqDiff, Nat.reduceLT, Nat.reduceLeDiff, Nat.reduceAdd, reduceCtorEq, Nat.reduceMul, e]; refine PCalls.eqto c ?_; refine S.bool fun b hb => ?_; refine Z _ _ (D.nil ?_); exact k' b hb)
      | (refine D.y rfl (by first | exact True.intro | rfl | (simp only [stC, ze, simprocAttr, e]; first | done | rfl)) rfl rfl rfl rfl fun Y Z => ?_; simp only [zz, tt, reduceIte, Nat.reduceEqDiff, Nat.reduceLT, Nat.reduceLeDiff, Nat.reduceAdd, reduceCtorEq, Nat.reduceMul, e]; refine PCalls.eqto c ?_; refine S.bool fun b hb => ?_; refine Z _ _ (D.nil ?_); exact k' b hb)) : semD P T n ops ds ((i, kk) :: q) K s σ := h e c _ k
theorem T.cl {f : FuncId} {xs : List V} {u : V} (e : A) (c : PCalls P f xs (fun v => v = u)) (k : semT P T n ops ds qt K s' σ') (h : A → PCalls P f xs (fun v => v = u) → ∀ K' : St → Hp → Prop, K' s' σ' → semD P T n ops ds [(i, kk)] K' s σ := by
    intro e c K' k'
    first
      | (refine D.g rfl (by first | exact True.intro | rfl | (simp only [stC, ze, simprocAttr, e]; first | done | rfl)) rfl rfl fun Y Z => ?_; simp only [zz, tt, reduceIte, Nat.reduceEqDiff, Nat.reduceLT, Nat.reduceLeDiff, Nat.reduceAdd, reduceCtorEq, Nat.reduceMul, e]; refine PCalls.eqto c ?_; refine Z _ _ (D.nil ?_); exact k')
      | (refine D.y rfl (by first | exact True.intro | rfl | (simp only [stC, ze, simprocAttr, e]; first | done | rfl)) rfl rfl rfl rfl fun Y Z => ?_; simp only [zz, tt, reduceIte, Nat.reduceEqDiff, Nat.reduceLT, Nat.reduceLeDiff, Nat.reduceAdd, reduceCtorEq, Nat.reduceMul, e]; refine PCalls.eqto c ?_; refine Z _ _ (D.nil ?_); exact k')) : semT P T n ops ds (.st i kk qt) K s σ := h e c _ k
theorem F.cl {f : FuncId} {xs : List V} {u : V} (e : A) (c : PCalls P f xs (fun v => v = u)) (k : semF P T n ops ds qf K s' σ') (h : A → PCalls P f xs (fun v => v = u) → ∀ K' : St → Hp → Prop, K' s' σ' → semD P T n ops ds [(i, kk)] K' s σ := by
    intro e c K' k'
    first
      | (refine D.g rfl (by first | exact True.intro | rfl | (simp only [stC, ze, simprocAttr, e]; first | done | rfl)) rfl rfl fun Y Z => ?_; simp only [zz, tt, reduceIte, Nat.reduceEqDiff, Nat.reduceLT, Nat.reduceLeDiff, Nat.reduceAdd, reduceCtorEq, Nat.reduceMul, e]; refine PCalls.eqto c ?_; refine Z _ _ (D.nil ?_); exact k')
      | (refine D.y rfl (by first | exact True.intro | rfl | (simp only [stC, ze, simprocAttr, e]; first | done | rfl)) rfl rfl rfl rfl fun Y Z => ?_; simp only [zz, tt, reduceIte, Nat.reduceEqDiff, Nat.reduceLT, Nat.reduceLeDiff, Nat.reduceAdd, reduceCtorEq, Nat.reduceMul, e]; refine PCalls.eqto c ?_; refine Z _ _ (D.nil ?_); exact k')) : semF P T n ops ds (.st i kk qf) K s σ := h e c _ k
theorem AW.cd {n : Nat} {c : Operand} {x z : Code} (b : Bool) (ht : b = true → AW P n x Q s σ) (hf : b = false → AW P n z Q s σ) (hc : ev s c = .c (.bool b) := by first | simp [ev] | (simp [ev]; try omega)) : AW P n (.cond c x z) Q s σ := AW.cond hc ht hf
theorem fn1 {C : Prop} (h : C := by (try and_intros) <;> first | rfl | assumption) : C := h
theorem AW.sq (e : A) (k : AW P n y Q s' σ') (h : A → ∀ K' : St → Hp → Prop, K' s' σ' → semL P {} n (l.map (·.dst)) l K' s σ := by
    intro e K' k'
    repeat (first
      | (refine S.g rfl rfl fun Y Z => ?_; simp only [zz, tt, reduceIte, Nat.reduceEqDiff, Nat.reduceLT, Nat.reduceLeDiff, Nat.reduceAdd, reduceCtorEq, Nat.reduceMul, Nat.reduceBEq, Int.reduceLE, Int.reduceLT, e]; refine Z _ _ ?_; clear Z Y)
      | (refine S.y rfl rfl rfl rfl fun Y Z => ?_; simp only [zz, tt, reduceIte, Nat.reduceEqDiff, Nat.reduceLT, Nat.reduceLeDiff, Nat.reduceAdd, reduceCtorEq, Nat.reduceMul, Nat.reduceBEq, Int.reduceLE, Int.reduceLT, e]; refine Z _ _ ?_; clear Z Y)
      | ((first | refine S.x rfl rfl rfl rfl fun Y Z => ?_ | refine S.u rfl rfl rfl rfl fun Y Z => ?_); simp only [ze, reduceIte, Nat.reduceEqDiff, Nat.reduceLT, Nat.reduceLeDiff, Nat.reduceAdd, reduceCtorEq, Nat.reduceMul, Nat.reduceBEq, Int.reduceLE, Int.reduceLT]; refine Z _ _ ?_; clear Z Y))
    refine S.nil ?_
    exact k') : AW P n (.seq (.region id l.toArray false) y) Q s σ := .seq (.reg0 (h e _ k))
theorem D.onf (e : A) (k : semD P T n ops ds q K s' σ') (h : A → ∀ K' : St → Hp → Prop, K' s' σ' → semD P T n ops ds [(i, kk)] K' s σ := by
    intro e K' k'
    first
      | (refine D.g rfl (by first | exact True.intro | rfl | (simp only [stC, ze, simprocAttr, e]; first | done | rfl)) rfl rfl fun Y Z => ?_; simp only [zz, tt, reduceIte, Nat.reduceEqDiff, Nat.reduceLT, Nat.reduceLeDiff, Nat.reduceAdd, reduceCtorEq, Nat.reduceMul, Nat.reduceBEq, Int.reduceLE, Int.reduceLT, e]; refine Z _ _ (D.nil ?_); exact k')
      | (refine D.y rfl (by first | exact True.intro | rfl | (simp only [stC, ze, simprocAttr, e]; first | done | rfl)) rfl rfl rfl rfl fun Y Z => ?_; simp only [zz, tt, reduceIte, Nat.reduceEqDiff, Nat.reduceLT, Nat.reduceLeDiff, Nat.reduceAdd, reduceCtorEq, Nat.reduceMul, Nat.reduceBEq, Int.reduceLE, Int.reduceLT, e]; refine Z _ _ (D.nil ?_); exact k')
      | ((first | refine D.x rfl (by first | (intro h; cases h; done) | (intro _; rfl)) rfl rfl rfl rfl fun Y Z => ?_ | refine D.u rfl (by first | (intro h; cases h; done) | (intro _; rfl)) rfl rfl rfl rfl fun Y Z => ?_); simp only [ze, reduceIte, Nat.reduceEqDiff, Nat.reduceLT, Nat.reduceLeDiff, Nat.reduceAdd, reduceCtorEq, Nat.reduceMul, Nat.reduceBEq, Int.reduceLE, Int.reduceLT]; refine Z _ _ (D.nil ?_); exact k')) : semD P T n ops ds ((i, kk) :: q) K s σ := h e _ k
theorem T.onf (e : A) (k : semT P T n ops ds qt K s' σ') (h : A → ∀ K' : St → Hp → Prop, K' s' σ' → semD P T n ops ds [(i, kk)] K' s σ := by
    intro e K' k'
    first
      | (refine D.g rfl (by first | exact True.intro | rfl | (simp only [stC, ze, simprocAttr, e]; first | done | rfl)) rfl rfl fun Y Z => ?_; simp only [zz, tt, reduceIte, Nat.reduceEqDiff, Nat.reduceLT, Nat.reduceLeDiff, Nat.reduceAdd, reduceCtorEq, Nat.reduceMul, Nat.reduceBEq, Int.reduceLE, Int.reduceLT, e]; refine Z _ _ (D.nil ?_); exact k')
      | (refine D.y rfl (by first | exact True.intro | rfl | (simp only [stC, ze, simprocAttr, e]; first | done | rfl)) rfl rfl rfl rfl fun Y Z => ?_; simp only [zz, tt, reduceIte, Nat.reduceEqDiff, Nat.reduceLT, Nat.reduceLeDiff, Nat.reduceAdd, reduceCtorEq, Nat.reduceMul, Nat.reduceBEq, Int.reduceLE, Int.reduceLT, e]; refine Z _ _ (D.nil ?_); exact k')
      | ((first | refine D.x rfl (by first | (intro h; cases h; done) | (intro _; rfl)) rfl rfl rfl rfl fun Y Z => ?_ | refine D.u rfl (by first | (intro h; cases h; done) | (intro _; rfl)) rfl rfl rfl rfl fun Y Z => ?_); simp only [ze, reduceIte, Nat.reduceEqDiff, Nat.reduceLT, Nat.reduceLeDiff, Nat.reduceAdd, reduceCtorEq, Nat.reduceMul, Nat.reduceBEq, Int.reduceLE, Int.reduceLT]; refine Z _ _ (D.nil ?_); exact k')) : semT P T n ops ds (.st i kk qt) K s σ := h e _ k
end
theorem mix1 : Tryz.prog.follows .mixedOrders = true := by kernel_rfl
section
variable {n id : Nat} {s : St} {σ : Hp} {l : List Oper} {Q : Exit → St → Hp → Prop} [Mode]
theorem AW.dw (sched : List (Nat × Nat)) (h : semD Tryz.prog { sd := fun _ => false } n l (l.map (·.dst)) sched (fun s σ => Q .normal s σ) s σ) (hlen : sched.length = l.length := by rfl) (hs : Region.noSelect l.toArray = true := by kernel_rfl)
    (hB : schedB Tryz.prog l.toArray sched true (Array.replicate l.length false) = true := by kernel_rfl) : AW Tryz.prog n (.region id l.toArray true) Q s σ := AW.draw (fun _ _ h => by cases h) mix1 sched hlen hs hB h
theorem AW.dv (T : Tab) (sched : List (Nat × Nat)) (h : semD Tryz.prog T n l (l.map (·.dst)) sched (fun s σ => Q .normal s σ) s σ) (hT : T.ok Tryz.prog := by exact fun _ _ h => by cases h) (hlen : sched.length = l.length := by rfl) (hs : Region.noSelect l.toArray = true := by kernel_rfl)
    (hB : schedB Tryz.prog l.toArray sched true (Array.replicate l.length false) = true := by kernel_rfl) : AW Tryz.prog n (.region id l.toArray true) Q s σ := AW.draw hT mix1 sched hlen hs hB h
theorem AW.dT (T : Tab) (t : Tr) (h : semT Tryz.prog T n l (l.map (·.dst)) t (fun s σ => Q .normal s σ) s σ) (hT : T.ok Tryz.prog := by exact fun _ _ h => by cases h) (hlen : t.len = l.length := by rfl) (hs : Region.noSelect l.toArray = true := by kernel_rfl)
    (hB : schedF Tryz.prog l t true (List.replicate l.length false) = true := by kernel_rfl) : AW Tryz.prog n (.region id l.toArray true) Q s σ := AW.drawT hT mix1 t hlen hs hB h
end
theorem nope {a b : Bool} {C : Prop} (h : a = b) (k : a = b → False := by
    intro h
    first | exact Bool.noConfusion h | (have h := of_decide_eq_true h; omega) | (have h := of_decide_eq_false h; omega)) : C := (k h).elim
def bl := And.intro @beq_eq_false_iff_ne.{0} (And.intro @decide_eq_true_eq (And.intro @decide_eq_false_iff_not (And.intro @beq_iff_eq.{0} (And.intro @ne_eq.{1} (And.intro @Bool.not_eq_true' (And.intro @Bool.not_eq_false' (And.intro @bne_iff_ne.{0} @bne_eq_false_iff_eq.{0})))))))
theorem shut {C : Prop} (h : C := by
    first | rfl | omega | ((rw [Bool.eq_iff_iff]; simp only [bl, Bool.false_or, Bool.true_or, Bool.or_false, Bool.or_true, Bool.false_and, Bool.and_false, Bool.true_and, Bool.and_true, Bool.not_true, Bool.not_false, Bool.or_eq_false_iff, Bool.and_eq_false_iff, Bool.or_eq_true, Bool.and_eq_true, Bool.false_eq_true, Bool.true_eq_false, true_iff, iff_true, false_iff, iff_false]) <;> omega)) : C := h
end Go.Abs.M
namespace Go.Abs.M
open Go Go.Abs Go.Proofs
theorem zt4 : zeroT Tryz.prog 4 = some (.bool false) := by kernel_rfl
theorem ok9 : okT Tryz.prog 9 = true := by kernel_rfl
theorem sz9 : szT Tryz.prog 9 = 1 := by kernel_rfl
theorem ag9 : aggT Tryz.prog 9 = false := by kernel_rfl
theorem ok23 : okT Tryz.prog 23 = true := by kernel_rfl
theorem sz23 : szT Tryz.prog 23 = 1 := by kernel_rfl
theorem ag23 : aggT Tryz.prog 23 = false := by kernel_rfl
theorem sl23 : slT Tryz.prog 23 = true := by kernel_rfl
theorem el23 : Program.elem Tryz.prog 23 = 25 := by kernel_rfl
theorem ok25 : okT Tryz.prog 25 = true := by kernel_rfl
theorem sz25 : szT Tryz.prog 25 = 5 := by kernel_rfl
theorem ag25 : aggT Tryz.prog 25 = true := by kernel_rfl
theorem zt25 : zeroT Tryz.prog 25 = some (.agg #[.int Go.IntKind.i64 (0), .string ⟨#[]⟩, .string ⟨#[]⟩, .slice none 0 0, .slice none 0 0]) := by kernel_rfl
theorem of25_1 : offT Tryz.prog 25 1 = some 1 := by kernel_rfl
theorem of25_4 : offT Tryz.prog 25 4 = some 4 := by kernel_rfl
theorem ok40 : okT Tryz.prog 40 = true := by kernel_rfl
theorem sz40 : szT Tryz.prog 40 = 1 := by kernel_rfl
theorem ag40 : aggT Tryz.prog 40 = true := by kernel_rfl
theorem by48 : Program.bytesOf Tryz.prog 48 = 64 := by kernel_rfl
theorem ok87 : okT Tryz.prog 87 = true := by kernel_rfl
theorem sz87 : szT Tryz.prog 87 = 1 := by kernel_rfl
theorem ag87 : aggT Tryz.prog 87 = false := by kernel_rfl
theorem by108 : Program.bytesOf Tryz.prog 108 = 136 := by kernel_rfl
theorem by119 : Program.bytesOf Tryz.prog 119 = 48 := by kernel_rfl
end Go.Abs.M
namespace Go.Abs.M
open Go Go.Abs Go.Proofs
variable [Mode]
set_option maxRecDepth 20000
def letter (c : UInt8) : Bool := decide (c.toNat = 95 ∨ (97 ≤ c.toNat ∧ c.toNat ≤ 122) ∨ (65 ≤ c.toNat ∧ c.toNat ≤ 90))
def nameC (i : Nat) (c : UInt8) : Bool := letter c || decide (i ≠ 0 ∧ 48 ≤ c.toNat ∧ c.toNat ≤ 57)
theorem getD_map {α : Type} {f : α → List V} {l : List α} {i : Nat} (h : i < l.length) : (l.map f).getD i [] = f l[i] := by simp [List.getD, h]
def nameL : Nat → List UInt8 → Bool
  | _, [] => true
  | i, c :: l => nameC i c && nameL (i + 1) l
def isName (s : ByteArray) : Bool := nameL 0 s.data.toList && s.size != 0 && s.size ≤ 32
theorem name_spec (str : ByteArray) (hn : str.size < 4611686018427387904) : PCalls Tryz.prog 65 [.c (.string str)] (fun v => v = .c (.bool (isName str))) := by
  refine PCalls.intro Tryz.call65 Tryz.func65 rfl Tryz.ntmps65 Tryz.results65 (by simp) ?_
  refine AW.sr trivial ?_
  refine AW.seq_k fun K2 h2 => ?_
  refine AW.sr trivial ?_
  refine AW.block (AW.loop (fun m s σ => σ = Hp.empty ∧ ∃ i : Nat, m + i = str.size ∧ s.t 0 = .c (.string str) ∧ s.t 7 = .sl (str.data.toList.map encU8) ∧ s.t 8 = .c (.int .i64 str.size) ∧ s.t 9 = .c (.int .i64 i) ∧ nameL 0 str.data.toList = nameL i (str.data.toList.drop i)) str.size ?_ ?_)
  · refine ⟨rfl, 0, by simp, ?_⟩
    simp only [zs, simprocAttr]
    exact ⟨by simp, by simp⟩
  rintro m s σ ⟨rfl, i, hm, e0, e7, e8, e9, hp⟩
  all_goals refine AW.sr (J2 e8 e9) ?_
  refine AW.seq_k fun K5 h5 => ?_
  refine AW.cd (decide (i < str.size)) (fun hc => AW.skip ?_) (fun hc => AW.exit ?_)
  · simp only [zs, simprocAttr]
    all_goals apply_assumption
    have hi : i < str.size := by simpa using hc
    have hil : i < str.data.toList.length := by rw [Array.length_toList]; exact hi
    have hi2 : i < str.data.size := hi
    have hg := getD_map (f := encU8) hil
    generalize hcc : str.data.toList[i] = c at hg
    refine AW.seq_k fun K6 h6 => ?_
    refine AW.block ?_
    refine AW.sr (J7 e9 e7 hil hi2 hg @encU8.eq_1 @List.length_singleton.{0}) ?_
    refine AW.seq_j (fun s' σ' => σ' = Hp.empty ∧ s'.t 0 = s.t 0 ∧ s'.t 7 = s.t 7 ∧ s'.t 8 = s.t 8 ∧ s'.t 9 = s.t 9 ∧ s'.t 3 = .c (.int .i64 i) ∧ s'.t 4 = .c (.int .u8 c.toNat) ∧ s'.t 5 = .c (.bool (letter c))) ?_ ?_
    · clear hp
      refine AW.reg0 ?_
      refine S.one trivial ?_
      (refine S.sp trivial fun b a15 => ?_; cases b <;> (try exact nope a15))
      all_goals iterate 2 refine S.one trivial ?_
      all_goals (first | (refine S.sp trivial fun b a18 => ?_; cases b <;> (try exact nope a18)) | refine S.one trivial ?_)
      all_goals iterate 2 refine S.one trivial ?_
      all_goals (first | (refine S.sp trivial fun b a21 => ?_; cases b <;> (try exact nope a21)) | refine S.one trivial ?_)
      all_goals iterate 4 refine S.one trivial ?_
      all_goals (first | (refine S.sp trivial fun b a26 => ?_; cases b <;> (try exact nope a26)) | refine S.one trivial ?_)
      all_goals iterate 6 refine S.one trivial ?_
      all_goals refine S.nil ?_
      all_goals simp only [ze, simprocAttr]
      all_goals (try simp only [bl] at *)
      all_goals (try simp only [V.c.injEq, Value.bool.injEq, Value.int.injEq, true_and, letter])
      all_goals exact shut
    rintro s1 σ1 ⟨rfl, f0, f7, f8, f9, f3, f4, f5⟩
    rw [e0] at f0; rw [e7] at f7; rw [e8] at f8; rw [e9] at f9
    refine AW.seq_j (fun s' σ' => σ' = Hp.empty ∧ s'.t 0 = s1.t 0 ∧ s'.t 7 = s1.t 7 ∧ s'.t 8 = s1.t 8 ∧ s'.t 9 = s1.t 9 ∧ s'.t 45 = .c (.bool (!nameC i c))) ?_ ?_
    · clear hp
      generalize hlc : letter c = lc at *
      cases lc
      all_goals refine AW.reg0 ?_
      all_goals iterate 4 refine S.one (J3 f3 f4 f5) ?_
      all_goals (first | (refine S.sp (J3 f3 f4 f5) fun b a36 => ?_; cases b <;> (try exact nope a36)) | refine S.one trivial ?_)
      all_goals iterate 2 refine S.one (J3 f3 f4 f5) ?_
      all_goals (first | (refine S.sp (J3 f3 f4 f5) fun b a39 => ?_; cases b <;> (try exact nope a39)) | refine S.one trivial ?_)
      all_goals iterate 6 refine S.one (J3 f3 f4 f5) ?_
      all_goals refine S.nil ?_
      all_goals simp only [ze, simprocAttr, f3, f4, f5]
      all_goals (try simp only [bl] at *)
      all_goals (try simp only [V.c.injEq, Value.bool.injEq, Value.int.injEq, true_and, nameC, hlc])
      all_goals exact shut
    rintro s2 σ2 ⟨rfl, g0, g7, g8, g9, g45⟩
    rw [f0] at g0; rw [f7] at g7; rw [f8] at g8; rw [f9] at g9
    have hd : str.data.toList.drop i = c :: str.data.toList.drop (i + 1) := by rw [← hcc]; exact List.drop_eq_getElem_cons hil
    rw [hd] at hp
    refine AW.cond (b := !nameC i c) g45 (fun ht => ?_) (fun hf => AW.skip ?_)
    · refine AW.sr trivial ?_
      refine AW.ret ?_
      simp only [zs, simprocAttr]
      have hx : nameC i c = false := by simpa using ht
      simp [isName, hp, nameL, hx]
    · simp only [zs, simprocAttr]
      all_goals apply_assumption
      have hw : IntKind.i64.wrap ((i : Int) + 1) = ((i + 1 : Nat) : Int) := by rw [wrap_small _ (by omega) (by omega)]; rfl
      refine AW.reg0 (S.rn (J2 g9 hw) ?_)
      simp only [ze, simprocAttr, g9, hw]
      have hx : nameC i c = true := by simpa using hf
      refine ⟨m - 1, by omega, i + 1, by omega, g0, g7, g8, ?_⟩
      rw [hp, nameL, hx, Bool.true_and]; exact ⟨rfl, rfl⟩
  · simp only [zs, simprocAttr]
    all_goals apply_assumption
    have hi : i = str.size := by have : ¬ i < str.size := by simpa using hc
                                 omega
    have hnil : str.data.toList.drop i = [] := List.drop_of_length_le (by rw [hi, Array.length_toList]; exact Nat.le_refl _)
    rw [hnil] at hp
    refine AW.seq_k fun K9 h9 => ?_
    refine AW.reg0 ?_
    refine S.one e0 ?_
    (refine S.sp e0 fun b a48 => ?_; cases b <;> (try exact nope a48))
    all_goals iterate 6 refine S.one e0 ?_
    all_goals (refine S.nil ?_; simp only [ze, simprocAttr, e0]; apply_assumption)
    all_goals refine AW.ret ?_
    all_goals simp only [zs, simprocAttr]
    · have h1 : str.size = 0 := by simpa using a48
      simp [isName, h1]
    · have h1 : str.size ≠ 0 := by simpa using a48
      simp only [V.c.injEq, Value.bool.injEq, isName, hp, nameL]
      have h2 : (str.size != 0) = true := by simpa using h1
      rw [h2, Bool.true_and, Bool.true_and, decide_eq_decide]
      omega
theorem mixedO : Tryz.prog.follows .mixedOrders = true := by kernel_rfl
structure Val where
  kind : Int
  n : Int
  s : ByteArray
structure Attr where
  name : ByteArray
  v : Val
def encVal (v : Val) : List V := [.c (.int .i64 v.kind), .c (.int .i64 v.n), .c (.string v.s)]
def encAttr (a : Attr) : List V := [.c (.string a.name), .c (.int .i64 a.v.kind), .c (.int .i64 a.v.n), .c (.string a.v.s)]
def valOk (v : Val) : Bool := decide (v.kind = 1 ∧ v.s.size = 0 ∨ v.kind = 2 ∧ v.n = 0 ∧ v.s.size ≤ 64)
def valErr (v : Val) : Int := if valOk v then 0 else 30
theorem check_val (v : Val) : PCalls Tryz.prog 97 [.agg (encVal v)] (fun r => r = .c (.int .i64 (valErr v))) := by
 refine PCalls.intro Tryz.call97 Tryz.func97 rfl Tryz.ntmps97 Tryz.results97 (by simp) ?_
 refine AW.sr @encVal.eq_1 ?_
 refine AW.seq_k fun K2 h2 => ?_
 refine AW.seq_j (fun s' σ' => σ' = Hp.empty ∧ s'.t 26 = .c (.bool (valOk v))) ?_ ?_
 ·skip
  refine AW.reg0 ?_
  iterate 2 refine S.one trivial ?_
  (refine S.sp trivial fun b a5 => ?_; cases b <;> (try exact nope a5))
  all_goals iterate 3 refine S.one trivial ?_
  all_goals (first | (refine S.sp trivial fun b a9 => ?_; cases b <;> (try exact nope a9)) | refine S.one trivial ?_)
  all_goals iterate 4 refine S.one trivial ?_
  all_goals (first | (refine S.sp trivial fun b a14 => ?_; cases b <;> (try exact nope a14)) | refine S.one trivial ?_)
  all_goals iterate 3 refine S.one trivial ?_
  all_goals (first | (refine S.sp trivial fun b a18 => ?_; cases b <;> (try exact nope a18)) | refine S.one trivial ?_)
  all_goals iterate 8 refine S.one trivial ?_
  all_goals refine S.nil ?_
  all_goals simp only [ze, simprocAttr]
  all_goals (try simp only [bl] at *)
  all_goals (try simp only [V.c.injEq, Value.bool.injEq, Value.int.injEq, true_and, valOk])
  all_goals exact shut
 rintro s σ ⟨rfl, e26⟩
 refine AW.cond (b := valOk v) e26 (fun hc => ?_) (fun hc => AW.skip ?_)
 ·refine AW.sr trivial ?_
  refine AW.ret ?_
  simp only [zs, simprocAttr]
  simp [valErr, hc]
 ·simp only [zs, simprocAttr]
  all_goals apply_assumption
  refine AW.sr trivial ?_
  refine AW.ret ?_
  simp only [zs, simprocAttr]
  simp [valErr, hc]
structure Ev where
  src : Int
  seq : Int
  time : Int
  type : ByteArray
  attrs : List Attr
def encEv (e : Ev) : List V := [.c (.int .i64 e.src), .c (.int .i64 e.seq), .c (.int .i64 e.time), .c (.string e.type), .sl (e.attrs.map encAttr)]
def leS (a b : ByteArray) : Bool := Op.bytesLess a.toList b.toList || a.toList == b.toList
def attrsFrom : Option ByteArray → List Attr → Int
  | _, [] => 0
  | p, a :: l => if isName a.name = false then 31 else if valErr a.v ≠ 0 then valErr a.v else if p.any (leS a.name ·) then 32 else attrsFrom (some a.name) l
def attrsErr (l : List Attr) : Int := if 8 < l.length then 3 else attrsFrom none l
def timeOk (n : Int) : Bool := decide (0 ≤ n ∧ n ≤ 1099511627776)
def evErr (e : Ev) : Int := if e.src < 0 ∨ 16 ≤ e.src ∨ timeOk e.seq = false ∨ timeOk e.time = false ∨ isName e.type = false then 40 else attrsErr e.attrs
def okA (l : List Attr) : Prop := ∀ a ∈ l, a.name.size < 4611686018427387904 ∧ a.v.s.size < 4611686018427387904
structure okE (e : Ev) : Prop where
  type : e.type.size < 4611686018427387904
  len : e.attrs.length < 4611686018427387904
  attrs : okA e.attrs
theorem time_spec (n : Int) : PCalls Tryz.prog 64 [.c (.int .i64 n)] (fun r => r = .c (.bool (timeOk n))) := by
 refine PCalls.intro Tryz.call64 Tryz.func64 rfl Tryz.ntmps64 Tryz.results64 (by simp) ?_
 refine AW.sr trivial ?_
 refine AW.seq_j (fun s' σ' => σ' = Hp.empty ∧ s'.t 2 = .c (.bool (timeOk n))) ?_ ?_
 ·skip
  refine AW.reg0 ?_
  refine S.one trivial ?_
  (refine S.sp trivial fun b a4 => ?_; cases b <;> (try exact nope a4))
  all_goals iterate 5 refine S.one trivial ?_
  all_goals refine S.nil ?_
  all_goals simp only [ze, simprocAttr]
  all_goals (try simp only [bl] at *)
  all_goals (try simp only [V.c.injEq, Value.bool.injEq, Value.int.injEq, true_and, timeOk])
  all_goals exact shut
 rintro s σ ⟨rfl, e2⟩
 refine AW.ret ?_
 all_goals simp only [zs, simprocAttr, e2]
theorem check_attrs (l : List Attr) (hl : okA l) : PCalls Tryz.prog 66 [.sl (l.map encAttr)] (fun r => r = .c (.int .i64 (attrsErr l))) := by
 refine PCalls.intro Tryz.call66 Tryz.func66 rfl Tryz.ntmps66 Tryz.results66 (by simp) ?_
 refine AW.sr trivial ?_
 refine AW.seq_k fun K2 h2 => ?_
 refine AW.sr trivial ?_
 refine AW.cd (decide ((l.length : Int) > 8)) (fun hc => ?_) (fun hc => ?_)
 ·refine AW.sr trivial ?_
  refine AW.ret ?_
  simp only [zs, simprocAttr]
  have : 8 < l.length := by have := of_decide_eq_true hc; omega
  simp [attrsErr, this]
 ·refine AW.skip ?_
  simp only [zs, simprocAttr]
  all_goals apply_assumption
  have hlen : l.length ≤ 8 := by have := of_decide_eq_false hc; omega
  refine AW.seq_k fun K5 h5 => ?_
  refine AW.sr trivial ?_
  refine AW.block ?_   -- 0
  refine AW.loop (fun m s σ => σ = Hp.empty ∧ ∃ i : Nat, m + i = l.length ∧ s.t 0 = .sl (l.map encAttr) ∧ s.t 9 = .sl (l.map encAttr) ∧ s.t 10 = .c (.int .i64 l.length) ∧ s.t 11 = .c (.int .i64 i) ∧ 
   attrsFrom none l = attrsFrom (if i = 0 then none else (l[i-1]?).map (·.name)) (l.drop i)) l.length ?_ ?_
  ·refine ⟨rfl, 0, by simp, ?_⟩
   simp only [zs, simprocAttr]
   simp
  rintro m s σ ⟨rfl, i, hm, e0, e9, e10, e11, hp⟩
  refine AW.sr (J2 e10 e11) ?_
  refine AW.seq_k fun K8 h8 => ?_
  refine AW.cd (decide (i < l.length)) (fun hc => ?_) (fun hc => ?_)
  ·refine AW.skip ?_
   simp only [zs, simprocAttr]
   all_goals apply_assumption
   have hi : i < l.length := by simpa using hc
   have hg := getD_map (f := encAttr) hi
   have hd : l.drop i = l[i] :: l.drop (i + 1) := List.drop_eq_getElem_cons hi
   have hmem := hl _ (List.getElem_mem hi)
   generalize ha : l[i] = a at hg hd hmem
   obtain ⟨hn1, hn2⟩ := hmem
   refine AW.seq_k fun K9 h9 => ?_
   refine AW.block ?_   -- 1
   refine AW.sr (J5 e9 e11 hi hg @encAttr.eq_1) ?_
   refine AW.seq_k fun K11 h11 => ?_
   refine AW.seq_k fun K12 h12 => ?_
   refine AW.reg0 ?_
   iterate 2 refine S.one trivial ?_
   (refine S.g rfl rfl fun Y Z => ?_; simp only [zz, simprocAttr]; refine PCalls.eqto (name_spec _ (by assumption)) ?_ <;> (refine Z _ _ ?_; clear Z Y))
   refine S.one trivial ?_
   (refine S.nil ?_; simp only [ze, simprocAttr]; apply_assumption)
   refine AW.cond (b := !isName a.name) (by simp [ev]) (fun hc => ?_) (fun hc => ?_)
   ·refine AW.sr trivial ?_
    refine AW.ret ?_
    simp only [zs, simprocAttr]
    have hx : isName a.name = false := by simpa using hc
    have h8 : ¬ 8 < l.length := by omega
    simp [attrsErr, h8, hp, hd, attrsFrom, hx]
   ·refine AW.skip ?_
    simp only [zs, simprocAttr]
    all_goals apply_assumption
    have hx : isName a.name = true := by simpa using hc
    refine AW.seq_k fun K14 h14 => ?_
    refine AW.seq_k fun K15 h15 => ?_
    refine AW.reg0 ?_
    iterate 2 refine S.one trivial ?_
    (refine S.g rfl rfl fun Y Z => ?_; simp only [zz, simprocAttr]; refine PCalls.eqto (check_val _) ?_ <;> (refine Z _ _ ?_; clear Z Y))
    refine S.one trivial ?_
    (refine S.nil ?_; simp only [ze, simprocAttr]; apply_assumption)
    refine AW.sr trivial ?_
    refine AW.cond (b := valErr a.v != 0) (by simp [ev]) (fun hc => ?_) (fun hc => ?_)
    ·refine AW.sr trivial ?_
     refine AW.ret ?_
     simp only [zs, simprocAttr]
     have hy : valErr a.v ≠ 0 := by simpa using hc
     have h8 : ¬ 8 < l.length := by omega
     simp [attrsErr, h8, hp, hd, attrsFrom, hx, hy]
    ·refine AW.skip ?_
     simp only [zs, simprocAttr]
     all_goals apply_assumption
     have hy : valErr a.v = 0 := by simpa using hc
     refine AW.seq_j (fun s' σ' => σ' = Hp.empty ∧ s'.t 0 = .sl (l.map encAttr) ∧ s'.t 9 = .sl (l.map encAttr) ∧ s'.t 10 = .c (.int .i64 l.length) ∧ s'.t 11 = .c (.int .i64 i) ∧
      s'.t 38 = .c (.bool ((if i = 0 then none else (l[i-1]?).map (·.name)).any (leS a.name ·)))) ?_ ?_
     ·clear hp hd
      by_cases hi0 : i = 0
      ·subst hi0
       refine AW.dv { sd := fun d => d == 4 } [(0,0),(1,0),(2,0),(3,0),(5,0),(6,0),(7,0),(8,0),(9,0),(4,1),(10,1),(11,0),(12,0)] ?_
       have q1q := J4 e0 e9 e10 e11
       refine D.one q1q ?_
       (refine D.sp q1q fun b a27 => ?_; cases b <;> (try exact nope a27))
       iterate 11 refine D.one q1q ?_
       refine D.nil ?_
       simp only [ze, simprocAttr, q1q]
       simp
      ·have hi1 : i - 1 < l.length := by omega
       have hg1 := getD_map (f := encAttr) hi1
       have hw : IntKind.i64.wrap ((i : Int) - 1) = ((i - 1 : Nat) : Int) := by rw [wrap_small _ (by omega) (by omega)]; omega
       refine AW.dv { sd := fun d => d == 4 } [(0,0),(1,0),(2,0),(3,0),(5,0),(6,0),(7,0),(8,0),(9,0),(4,1),(10,1),(11,0),(12,0)] ?_
       have q2q := J8 e0 e9 e10 e11 hi1 hg1 @encAttr.eq_1 hw
       refine D.one q2q ?_
       (refine D.sp q2q fun b a27 => ?_; cases b <;> (try exact nope a27))
       iterate 11 refine D.one q2q ?_
       refine D.nil ?_
       simp only [ze, simprocAttr, q2q]
       simp [hi0, hi1, leS]
     rintro s1 σ1 ⟨rfl, f0, f9, f10, f11, f38⟩
     refine AW.cond (b := _) f38 (fun hc => ?_) (fun hc => ?_)
     ·refine AW.sr trivial ?_
      refine AW.ret ?_
      simp only [zs, simprocAttr]
      have h8 : ¬ 8 < l.length := by omega
      simp [attrsErr, h8, hp, hd, attrsFrom, hx, hy, hc]
     ·refine AW.skip ?_
      simp only [zs, simprocAttr]
      all_goals apply_assumption
      have hw : IntKind.i64.wrap ((i : Int) + 1) = ((i + 1 : Nat) : Int) := by rw [wrap_small _ (by omega) (by omega)]; rfl
      refine AW.reg0 (S.rn (J2 f11 hw) ?_)
      simp only [ze, simprocAttr, f11, hw]
      refine ⟨m - 1, by omega, i + 1, by omega, f0, f9, f10, rfl, ?_⟩
      rw [hp, hd, attrsFrom]
      simp [hx, hy, hc, ha, hi]
  ·refine AW.exit ?_
   simp only [zs, simprocAttr]
   -- EXIT 0
   all_goals apply_assumption
   refine AW.sr trivial ?_
   refine AW.ret ?_
   simp only [zs, simprocAttr]
   have hi : l.length ≤ i := by simpa using hc
   have h8 : ¬ 8 < l.length := by omega
   simp [attrsErr, h8, hp, List.drop_of_length_le hi, attrsFrom]
theorem check_ev (e : Ev) (he : okE e) : PCalls Tryz.prog 37 [.agg (encEv e)] (fun r => r = .c (.int .i64 (evErr e))) := by
 have h1 := he.type
 have h2 := he.attrs
 refine PCalls.intro Tryz.call37 Tryz.func37 rfl Tryz.ntmps37 Tryz.results37 (by simp) ?_
 refine AW.sr @encEv.eq_1 ?_
 refine AW.seq_k fun K2 h2 => ?_
 refine AW.seq_j (fun s' σ' => σ' = Hp.empty ∧ s'.l 1 = some (encEv e) ∧ s'.t 1 = .lp 1 0 ∧ s'.t 31 = .c (.bool (decide (e.src < 0 ∨ 16 ≤ e.src ∨ timeOk e.seq = false ∨ timeOk e.time = false ∨ isName e.type = false)))) ?_ ?_
 ·skip
  refine AW.reg0 ?_
  iterate 3 refine S.one @encEv.eq_1 ?_
  (refine S.sp @encEv.eq_1 fun b a6 => ?_; cases b <;> (try exact nope a6))
  all_goals iterate 4 refine S.one @encEv.eq_1 ?_
  all_goals (first | (refine S.sp @encEv.eq_1 fun b a11 => ?_; cases b <;> (try exact nope a11)) | refine S.one trivial ?_)
  all_goals iterate 5 refine S.one @encEv.eq_1 ?_
  all_goals (first | (refine S.cb @encEv.eq_1 (time_spec _) fun b a17 => ?_; cases b <;> (try exact nope a17)) | refine S.one trivial ?_)
  all_goals iterate 5 refine S.one @encEv.eq_1 ?_
  all_goals (first | (refine S.cb @encEv.eq_1 (time_spec _) fun b a23 => ?_; cases b <;> (try exact nope a23)) | refine S.one trivial ?_)
  all_goals iterate 5 refine S.one @encEv.eq_1 ?_
  all_goals (first | (refine S.cl @encEv.eq_1 (name_spec _ (by assumption)) ?_) | refine S.one trivial ?_)
  all_goals iterate 2 refine S.one @encEv.eq_1 ?_
  all_goals refine S.nil ?_
  all_goals simp only [ze, simprocAttr, encEv]
  all_goals simp_all
  have k1 : ¬ e.src < 0 := by omega
  have k2 : ¬ 16 ≤ e.src := by omega
  simp [k1, k2]
 rintro s σ ⟨rfl, l1, e1, e31⟩
 rw [encEv] at l1
 refine AW.cond (b := _) e31 (fun hc => ?_) (fun hc => ?_)
 ·refine AW.sr trivial ?_
  refine AW.ret ?_
  simp only [zs, simprocAttr]
  have := of_decide_eq_true hc
  simp [evErr, this]
 ·refine AW.skip ?_
  simp only [zs, simprocAttr]
  all_goals apply_assumption
  refine AW.seq_k fun K4 h4 => ?_
  refine AW.reg0 ?_
  iterate 2 refine S.one (J2 e1 l1) ?_
  refine S.cl (J2 e1 l1) (check_attrs _ (by assumption)) ?_
  all_goals refine S.one (J2 e1 l1) ?_
  all_goals (refine S.nil ?_; simp only [ze, simprocAttr, e1, l1]; apply_assumption)
  refine AW.ret ?_
  all_goals simp only [zs, simprocAttr]
  have := of_decide_eq_false hc
  simp only [evErr, if_neg this]
theorem eqA45 (d : Nat) (w : World) (x0 y0 x1 y1 : Int) :
  (Op.equalIn (d + 2) 45 (.agg #[.int .i64 x0, .int .i64 x1]) (.agg #[.int .i64 y0, .int .i64 y1])).run Tryz.prog w = .ok (x0 == y0 && (x1 == y1)) w := by
 refine eqF_of Tryz.underlying45 (by kernel_rfl) ?_
 refine eqF_more (by rfl) (by go_simp; rfl) (by go_simp; rfl) (by go_simp) ?_
 exact eqF_one (by rfl) (by go_simp; rfl) (by go_simp; rfl) (by go_simp)
theorem eqA104 (d : Nat) (w : World) (x0 y0 : Int) (x1 y1 : Int) (x2 y2 : ByteArray) :
  (Op.equalIn (d + 2) 104 (.agg #[.int .i64 x0, .int .i64 x1, .string x2]) (.agg #[.int .i64 y0, .int .i64 y1, .string y2])).run Tryz.prog w = .ok (x0 == y0 && (x1 == y1 && (x2.toList == y2.toList))) w := by
 refine eqF_of Tryz.underlying104 (by kernel_rfl) ?_
 refine eqF_more (by rfl) (by go_simp; rfl) (by go_simp; rfl) (by go_simp) ?_
 refine eqF_more (by rfl) (by go_simp; rfl) (by go_simp; rfl) (by go_simp) ?_
 exact eqF_one (by rfl) (by go_simp; rfl) (by go_simp; rfl) (by go_simp)
theorem eqA119 (d : Nat) (w : World) (x0 y0 : ByteArray) (x1 y1 : Int) (x2 y2 : Int) (x3 y3 : ByteArray) :
  (Op.equalIn (d + 3) 119 (.agg #[.string x0, .int .i64 x1, .int .i64 x2, .string x3]) (.agg #[.string y0, .int .i64 y1, .int .i64 y2, .string y3])).run Tryz.prog w = .ok (x0.toList == y0.toList && ((x1 == y1 && (x2 == y2 && (x3.toList == y3.toList))))) w := by
 refine eqF_of Tryz.underlying119 (by kernel_rfl) ?_
 refine eqF_more (by rfl) (by go_simp; rfl) (by go_simp; rfl) (by go_simp) ?_
 exact eqF_one (by rfl) (by go_simp) (by go_simp) (eqA104 (d + 0) w _ _ _ _ _ _)
theorem fitI {ks : List SK} {xs : List Value} (h : fitsAll (.int .i64 :: ks) xs = true) : ∃ (a : Int) (ys : List Value), xs = .int .i64 a :: ys ∧ fitsAll ks ys = true := by
  match xs, h with
  | .int k a :: ys, h =>
    simp only [fitsAll, SK.fits, Bool.and_eq_true, beq_iff_eq] at h
    obtain ⟨h1, h2⟩ := h
    exact ⟨a, ys, by rw [← h1], h2⟩
theorem fitS {ks : List SK} {xs : List Value} (h : fitsAll (.str :: ks) xs = true) : ∃ (a : ByteArray) (ys : List Value), xs = .string a :: ys ∧ fitsAll ks ys = true := by
  match xs, h with
  | .string a :: ys, h =>
    simp only [fitsAll, SK.fits, Bool.and_eq_true, true_and] at h
    exact ⟨a, ys, rfl, h⟩
theorem fit0 {xs : List Value} (h : fitsAll [] xs = true) : xs = [] := by
 match xs, h with
 | [], _ => rfl
theorem eqt45 : EqT Tryz.prog 45 [.int .i64, .int .i64] := by
 refine ⟨fun op x y xs ys w => run_guard_agg (by kernel_rfl) xs ys w, fun xs ys hx hy w => ?_⟩
 obtain ⟨a0, xs1, rfl, p1⟩ := fitI hx
 obtain ⟨a1, xs2, rfl, p2⟩ := fitI p1
 obtain ⟨b0, ys3, rfl, q3⟩ := fitI hy
 obtain ⟨b1, ys4, rfl, q4⟩ := fitI q3
 rw [fit0 p2, fit0 q4]
 have := eqA45 9998 w a0 b0 a1 b1
 simpa [Op.equal, Op.maxDepth, cellsEq, cellEq] using this
theorem eqt119 : EqT Tryz.prog 119 [.str, .int .i64, .int .i64, .str] := by
 refine ⟨fun op x y xs ys w => run_guard_agg (by kernel_rfl) xs ys w, fun xs ys hx hy w => ?_⟩
 obtain ⟨a0, xs1, rfl, p1⟩ := fitS hx
 obtain ⟨a1, xs2, rfl, p2⟩ := fitI p1
 obtain ⟨a2, xs3, rfl, p3⟩ := fitI p2
 obtain ⟨a3, xs4, rfl, p4⟩ := fitS p3
 obtain ⟨b0, ys5, rfl, q5⟩ := fitS hy
 obtain ⟨b1, ys6, rfl, q6⟩ := fitI q5
 obtain ⟨b2, ys7, rfl, q7⟩ := fitI q6
 obtain ⟨b3, ys8, rfl, q8⟩ := fitS q7
 rw [fit0 p4, fit0 q8]
 have := eqA119 9997 w a0 b0 a1 b1 a2 b2 a3 b3
 simpa [Op.equal, Op.maxDepth, cellsEq, cellEq] using this
theorem key45 : KeyT Tryz.prog 45 (fitsK [.int .i64, .int .i64]) := by
 refine KeyT.struct Tryz.underlying45 eqt45 (fun em xs w hx => ?_)
 obtain ⟨a0, xs1, rfl, p1⟩ := fitI hx
 obtain ⟨a1, xs2, rfl, p2⟩ := fitI p1
 rw [fit0 p2]
 unfold Instr.checkKey
 rw [Sem.run_bind, run_underlying Tryz.underlying45]
 simp only [Result.andThen_ok]
 go_simp
 have h1 : ∀ (t : TypeId) (x : Int), Tryz.prog.underlying t = some (.int .i64) → (Instr.checkKey em 9999 t (.int .i64 x)).run Tryz.prog w = .ok () w := fun t x h => MapKept.run_checkKey (w := w) (k := .int .i64 x) h (by simp [MapKept.IsKey]) em 9998
 rw [h1 3 a0 Tryz.underlying3, Result.andThen_ok, h1 2 a1 Tryz.underlying2]
theorem eqt104 : EqT Tryz.prog 104 [.int .i64, .int .i64, .str] := by
 refine ⟨fun op x y xs ys w => run_guard_agg (by kernel_rfl) xs ys w, fun xs ys hx hy w => ?_⟩
 obtain ⟨a0, xs1, rfl, p1⟩ := fitI hx
 obtain ⟨a1, xs2, rfl, p2⟩ := fitI p1
 obtain ⟨a2, xs3, rfl, p3⟩ := fitS p2
 obtain ⟨b0, ys3, rfl, q3⟩ := fitI hy
 obtain ⟨b1, ys4, rfl, q4⟩ := fitI q3
 obtain ⟨b2, ys5, rfl, q5⟩ := fitS q4
 rw [fit0 p3, fit0 q5]
 have := eqA104 9998 w a0 b0 a1 b1 a2 b2
 simpa [Op.equal, Op.maxDepth, cellsEq, cellEq] using this
def eqTab (t : TypeId) : Option (List SK) := if t = 45 then some [.int .i64, .int .i64] else if t = 119 then some [.str, .int .i64, .int .i64, .str] else if t = 104 then some [.int .i64, .int .i64, .str] else none
theorem eqTab_ok : ∀ t ks, eqTab t = some ks → EqT Tryz.prog t ks := fun t ks h => by
 unfold eqTab at h
 split at h
 ·rename_i e; subst e; injection h with h; subst h; exact eqt45
 ·split at h
  ·rename_i e; subst e; injection h with h; subst h; exact eqt119
  ·split at h
   ·rename_i e; subst e; injection h with h; subst h; exact eqt104
   ·cases h
theorem eqk104 : eqTab 104 = some [.int .i64, .int .i64, .str] := rfl
theorem eqk45 : eqTab 45 = some [.int .i64, .int .i64] := rfl
theorem eqk119 : eqTab 119 = some [.str, .int .i64, .int .i64, .str] := rfl
end Go.Abs.M
