import Derived.Test.YtkijhgplmikboaaGreatDoorSma
import Derived.ChangeArms
import Derived.SizedLaws
import Derived.Carry
import Derived.ChangeOld
import Derived.Test.YtkijhgplmikboaaGreatDoorRows
import Derived.Laws.Append
import Derived.RangeFuncCalls
import Derived.MapKept
import Derived.Maps.Own
import Derived.Sort.KeysCollected
import Derived.Shelf.SlIter.Nil
import Derived.Shelf.SortM.Plain
import Derived.Shelf.SortM.SortNone
set_option linter.all false
set_option maxHeartbeats 4000000
namespace Go.Abs
open Go
theorem str_nil (s : ByteArray) : (s.toList == (ByteArray.mk #[]).toList) = decide (s.size = 0) := by
 rw [ByteArray.toList_eq, ByteArray.toList_eq]
 have e : s.size = s.data.toList.length := by rw [Array.length_toList]; rfl
 rw [e]
 cases s.data.toList <;> rfl
section
variable {P : Program} {T : Tab} {n : Nat} {s : St} {σ : Hp} {Q Q' : Exit → St → Hp → Prop}
variable [Mode]
def stC (T : Tab) (s : St) : Nat → Op → Prop
  | 1, .load _ x => steady T.sd (ev s x) = true
  | 1, _ => False
  | _, _ => True
theorem D.go {ops : List Oper} {ds : List (Option Nat)} {i k : Nat} {o : Oper} {r : List (Nat × Nat)} {K : St → Hp → Prop} (ho : ops[i]? = some o) (hs : stC T s k o.op) (hd : dOK n o.dst) (hg : o.guard = none)
  (h : ∀ K' : St → Hp → Prop, (∀ s σ, semD P T n ops ds r K s σ → K' s σ) → semOp P T o K' s σ) : semD P T n ops ds ((i, k) :: r) K s σ := by
 simp only [semD, ho]
 refine ⟨hd, ?_, by rw [hg]; exact h _ fun _ _ h => h⟩
 unfold stC at hs
 split at hs <;> simp_all [gate]
theorem D.yes {ops : List Oper} {ds : List (Option Nat)} {i k : Nat} {o : Oper} {r : List (Nat × Nat)} {K : St → Hp → Prop} {j d : Nat} {b : Bool} (ho : ops[i]? = some o) (hs : stC T s k o.op) (hd : dOK n o.dst) (hg : o.guard = some (j, b)) (hj : ds[j]? = some (some d)) (hb : s.t d = .c (.bool b))
  (h : ∀ K' : St → Hp → Prop, (∀ s σ, semD P T n ops ds r K s σ → K' s σ) → semOp P T o K' s σ) : semD P T n ops ds ((i, k) :: r) K s σ := by
 simp only [semD, ho]
 refine ⟨hd, ?_, by rw [hg, gate_some hj hb, if_pos rfl]; exact h _ fun _ _ h => h⟩
 unfold stC at hs
 split at hs <;> simp_all [gate]
theorem stC_gate {ds : List (Option Nat)} {o : Oper} {k j d : Nat} {b : Bool} (hk : k = 1 → isLoad o.op = true) (hg : o.guard = some (j, b)) (hj : ds[j]? = some (some d)) (hb : s.t d = .c (.bool (!b)) ∨ s.t d = .c undef) :
    (match (generalizing := false) k, o.op with
       | 1, .load _ x => gate ds s o.guard (steady T.sd (ev s x) = true) True
       | 1, _ => False
       | _, _ => True) := by
  split
  · rcases hb with hb | hb
    · simp [gate, hg, hj, hb]
    · simp [gate, hg, hj, hb, undef]
  · rename_i op hne
    have := hk rfl
    unfold isLoad at this
    split at this
    · rename_i h1; exact hne _ _ h1
    · cases this
  · trivial
theorem D.no {ops : List Oper} {ds : List (Option Nat)} {i k : Nat} {o : Oper} {r : List (Nat × Nat)} {K : St → Hp → Prop} {j d : Nat} {b : Bool} (ho : ops[i]? = some o) (hk : k = 1 → isLoad o.op = true) (hd : dOK n o.dst) (hg : o.guard = some (j, b)) (hj : ds[j]? = some (some d)) (hb : s.t d = .c (.bool (!b)))
  (h : ∀ K' : St → Hp → Prop, (∀ s σ, semD P T n ops ds r K s σ → K' s σ) → K' (s.putO o.dst (.c undef)) σ) : semD P T n ops ds ((i, k) :: r) K s σ := by
 simp only [semD, ho]
 exact ⟨hd, stC_gate (T := T) hk hg hj (.inl hb), by rw [hg, gate_some hj hb, if_neg (by cases b <;> simp)]; exact h _ fun _ _ h => h⟩
theorem D.un {ops : List Oper} {ds : List (Option Nat)} {i k : Nat} {o : Oper} {r : List (Nat × Nat)} {K : St → Hp → Prop} {j d : Nat} {b : Bool} (ho : ops[i]? = some o) (hk : k = 1 → isLoad o.op = true) (hd : dOK n o.dst) (hg : o.guard = some (j, b)) (hj : ds[j]? = some (some d)) (hb : s.t d = .c undef)
  (h : ∀ K' : St → Hp → Prop, (∀ s σ, semD P T n ops ds r K s σ → K' s σ) → K' (s.putO o.dst (.c undef)) σ) : semD P T n ops ds ((i, k) :: r) K s σ := by
 simp only [semD, ho]
 exact ⟨hd, stC_gate (T := T) hk hg hj (.inr hb), by rw [hg]; simp only [gate, hj, hb, undef]; exact h _ fun _ _ h => h⟩
theorem D.nil {ops : List Oper} {ds : List (Option Nat)} {K : St → Hp → Prop} (h : K s σ) : semD P T n ops ds [] K s σ := h
end
end Go.Abs
namespace Go.Abs
open Go
def fitsK (ks : List SK) : Value → Bool
  | .agg xs => fitsAll ks xs.toList
  | _ => false
theorem cellEq_bits {k : SK} {x y : Value} (n : Nat) (hx : k.fits x = true) (hy : k.fits y = true) (h : cellEq x y = true) : Instr.sameBits n y x = true := by
 cases k <;> cases x <;> simp [SK.fits] at hx <;> cases y <;> simp [SK.fits] at hy
 ·subst hx; subst hy
  simp [cellEq] at h
  cases n <;> simp [Instr.sameBits, h]
 ·simp [cellEq] at h
  cases n <;> simp [Instr.sameBits, beq_toListBytes, h]
 ·simp [cellEq] at h
  cases n <;> simp [Instr.sameBits, h]
theorem cells_bits : ∀ {ks : List SK} {xs ys : List Value} (n : Nat), fitsAll ks xs = true → fitsAll ks ys = true → cellsEq xs ys = true → xs.length = ys.length ∧ (ys.zip xs).all (fun p => Instr.sameBits n p.1 p.2) = true
  | [], [], [], _, _, _, _ => ⟨rfl, rfl⟩
  | [], _ :: _, _, _, h, _, _ => by simp [fitsAll] at h
  | [], [], _ :: _, _, _, h, _ => by simp [fitsAll] at h
  | _ :: _, [], _, _, h, _, _ => by simp [fitsAll] at h
  | _ :: _, _ :: _, [], _, _, h, _ => by simp [fitsAll] at h
  | k :: ks, x :: xs, y :: ys, n, hx, hy, h => by
    simp only [fitsAll, cellsEq, Bool.and_eq_true] at hx hy h
    obtain ⟨h1, h2⟩ := cells_bits n hx.2 hy.2 h.2
    exact ⟨by simp [h1], by simp only [List.zip_cons_cons, List.all_cons, Bool.and_eq_true]; exact ⟨cellEq_bits n hx.1 hy.1 h.1, h2⟩⟩
theorem KeyT.struct {P : Program} {kt : TypeId} {ks : List SK} {fs : Array Field} (hu : P.underlying kt = some (.struct fs)) (hE : EqT P kt ks)
    (hc : ∀ em (xs : List Value) (w : World), fitsAll ks xs = true → (Instr.checkKey em 10000 kt (.agg ⟨xs⟩)).run P w = .ok () w) : KeyT P kt (fitsK ks) := by
  have agg : ∀ x, fitsK ks x = true → ∃ xs, x = .agg ⟨xs⟩ ∧ fitsAll ks xs = true := fun x hx => by
    cases x <;> simp [fitsK] at hx
    rename_i xs
    exact ⟨xs.toList, rfl, hx⟩
  have ask : ∀ (x : Value) (ms : List MapEntry) (w : World) (i : Nat), fitsK ks x = true → (∀ m ∈ ms, fitsK ks m.key = true) → (Instr.findAsking kt x ms i).run P w = .ok (findM x ms i) w := by
    intro x ms w i hx
    induction ms generalizing i with
    | nil => intro _; rfl
    | cons m ms ih =>
      intro hm
      obtain ⟨xs, rfl, h1⟩ := agg x hx
      obtain ⟨ys, h2, h3⟩ := agg m.key (hm m List.mem_cons_self)
      have he := hE.2 xs ys h1 h3 w
      have ih' := ih (i + 1) (fun m' h' => hm m' (List.mem_cons_of_mem _ h'))
      simp only [Instr.findAsking, findM, h2, Sem.run_bind, he, Result.andThen_ok, sameK]
      cases cellsEq xs ys with
      | true => rfl
      | false => simpa using ih'
  refine ⟨fun em x w hx => ?_, fun x ms w hx hm => ?_, fun x y w hx hy hs => ?_⟩
  · obtain ⟨xs, rfl, h⟩ := agg x hx; exact hc em xs w h
  · have h1 := ask x ms w 0 hx hm
    unfold Instr.findKey
    rw [Sem.run_bind, run_underlying hu]
    simp only [Result.andThen_ok]
    cases ms with
    | nil => rfl
    | cons m ms =>
      have : Instr.findNow (.struct fs) x (m :: ms) 0 = none := by simp [Instr.findNow, Instr.sameNow]
      rw [this]
      exact h1
  · obtain ⟨xs, rfl, h1⟩ := agg x hx
    obtain ⟨ys, rfl, h2⟩ := agg y hy
    obtain ⟨h3, h4⟩ := cells_bits 9999 h1 h2 hs
    have : Instr.sameBits 10000 (.agg ⟨ys⟩) (.agg ⟨xs⟩) = true := by
      simp only [Instr.sameBits, Bool.and_eq_true]
      exact ⟨by simp [h3], h4⟩
    simp [Instr.keyThatStays, this]
section
variable {P : Program} {d : Nat} {xs ys : Array Value} {f : Field} {fs : List Field} {a b : Value} {r s : Bool} {w : World}
variable [Mode]
theorem eqF_one (hn : (f.name == "_") = false) (ha : (part f.type xs f.offset).run P w = .ok a w) (hb : (part f.type ys f.offset).run P w = .ok b w) (he : (Op.equalIn d f.type a b).run P w = .ok r w) : (Op.eqFields d xs ys [f]).run P w = .ok r w := by
 have hn' : f.name ≠ "_" := by simpa using hn
 simp only [Op.eqFields, if_pos hn', Sem.run_bind, ha, hb, he, Result.andThen_ok]
 cases r <;> simp
theorem eqF_more (hn : (f.name == "_") = false) (ha : (part f.type xs f.offset).run P w = .ok a w) (hb : (part f.type ys f.offset).run P w = .ok b w) (he : (Op.equalIn d f.type a b).run P w = .ok r w) (hr : (Op.eqFields d xs ys fs).run P w = .ok s w) : (Op.eqFields d xs ys (f :: fs)).run P w = .ok (r && s) w := by
 have hn' : f.name ≠ "_" := by simpa using hn
 rw [Op.eqFields]
 simp only [if_pos hn', Sem.run_bind, ha, hb, he, Result.andThen_ok]
 cases r
 ·simp
 ·simpa using hr
theorem eqF_of {t : TypeId} {fs : Array Field} (hu : P.underlying t = some (.struct fs)) (hp : P.stoodInHeld t = false) (h : (Op.eqFields d xs ys fs.toList).run P w = .ok r w) : (Op.equalIn (d + 1) t (.agg xs) (.agg ys)).run P w = .ok r w := by
 have hf : P.fieldsOf t = fs := by simp [Program.fieldsOf, hu]
 rw [run_equalIn_struct (P := P) w d t xs ys (by rw [hf]; exact hu) hp, hf]
 exact h
theorem run_guard_agg {op : BinOp} {t : TypeId} {x y : Operand} (h : P.eqGuardType P.depth t = false) (xs ys : Array Value) (w : World) : (eqGuard op t x y (.agg xs) (.agg ys)).run P w = .ok () w := by
 unfold eqGuard
 cases op <;> simp [h, Sem.run, Sem.run_bind, program]
end
end Go.Abs
namespace Go.Abs
open Go
section
variable {P : Program} {n : Nat} {s : St} {σ : Hp}
variable [Mode]
def retVR (k : V → Prop) : List V → Prop
  | [v] => k v
  | vs => k (.tup vs)
def retSR (P : Program) (rs : List ResultVar) (R : V → Hp → Prop) : Exit → St → Hp → Prop
  | .normal, s, σ | .ret, s, σ => resVs P s σ rs (retVR fun v => R v σ)
  | _, _, _ => False
theorem retSR_normal {rs : List ResultVar} {R : V → Hp → Prop} : retSR P rs R .normal s σ = resVs P s σ rs (retVR fun v => R v σ) := rfl
theorem retSR_ret {rs : List ResultVar} {R : V → Hp → Prop} : retSR P rs R .ret s σ = resVs P s σ rs (retVR fun v => R v σ) := rfl
end
end Go.Abs
namespace Go.Abs
open Go
section
variable {P : Program} {T : Tab} {B : Base} {n : Nat} {cx cx' : Cx} {s : St} {σ σ' : Hp} {a : Act} {w w' : World} {K : St → Hp → Prop}
variable [Mode]
def schedC (P : Program) (ops : Array Oper) : List (Nat × Nat) → Array Bool → Array Bool → Bool
  | [], L, L1 => L == L1
  | (i, 0) :: r, L, L1 => ((ops[i]?).map fun o => pureOp P o.op).getD false && (Region.ready .any ops L).contains i && Region.free .any ops L i && schedC P ops r (L.setIfInBounds i true) L1
  | _ :: _, _, _ => false
theorem semD_pre (hT : T.ok P) {ops : Array Oper} (hs : Region.noSelect ops = true) {Q : Act → World → Prop} {fuel : Nat} {L1 : Array Bool}
    (hend : ∀ s a, SR B n cx s σ a w → K s σ → wpAnyH P .any ops (onlyN Q) (stillW B) fuel L1 a w) :
    ∀ (pre : List (Nat × Nat)) (L : Array Bool) {s : St} {a : Act}, schedC P ops pre L L1 = true → SR B n cx s σ a w → semD P T n ops.toList (ops.toList.map (·.dst)) pre K s σ →
      wpAnyH P .any ops (onlyN Q) (stillW B) (pre.length + fuel) L a w
  | [], L, s, a, hB, h, hk => by
    have e : L = L1 := by simpa [schedC] using hB
    subst e
    simpa using hend s a h hk
  | (i, 0) :: r, L, s, a, hB, h, hk => by
    simp only [schedC, Bool.and_eq_true] at hB
    obtain ⟨⟨⟨hp, hr⟩, hf⟩, hB2⟩ := hB
    simp only [semD] at hk
    cases hi : ops.toList[i]? with
    | none => simp [hi] at hk
    | some o =>
      simp only [hi] at hk
      obtain ⟨hd, _, hk⟩ := hk
      have hi' : ops[i]? = some o := by simpa using hi
      have take : ∀ {v : V} {x : Value}, (Region.wanted o (yielded ops a.tmps) = true ∧ (∀ w', stillW B w' → (execOp a.eval o).run P w' = .ok (.value x) w') ∨ Region.wanted o (yielded ops a.tmps) = false ∧ x = undef) → TR w cx v x →
          semD P T n ops.toList (ops.toList.map (·.dst)) r K (s.putO o.dst v) σ → wpAnyH P .any ops (onlyN Q) (stillW B) (((i, 0) :: r).length + fuel) L a w := fun {v x} hy hv hkr => by
        have h' := h.putO (dOK_spec hd) hv
        have e : ((i, 0) :: r).length + fuel = (r.length + fuel) + 1 := by simp; omega
        rw [e]
        exact wpAnyH_take hi' hs hf hr (fun _ _ _ hq => hq.elim) (v := x) hy h.stillW (semD_pre hT hs hend r _ hB2 h' hkr)
      simp only [hi', Option.map_some, Option.getD_some] at hp
      rcases gate_wanted (ops := ops) h hk with ⟨hw, hk⟩ | ⟨hw, hk⟩
      · obtain ⟨v, hv, hy⟩ := sem_pure hT hp hk
        obtain ⟨x, hx, ht⟩ := hy h
        exact take (.inl ⟨hw, fun w' _ => hx w'⟩) ht hv
      · exact take (.inr ⟨hw, rfl⟩) (.v (.c undef)) hk
  | (i, k + 1) :: r, L, s, a, hB, h, hk => by simp [schedC] at hB
theorem semD_step (hT : T.ok P) {ops : Array Oper} (hs : Region.noSelect ops = true) {Q : Act → World → Prop} (hsd : B.sd = T.sd) (hQ : ∀ a w, KC B n K a w → Q a w) {i : Nat} {r : List (Nat × Nat)} {L : Array Bool}
    (hB : schedB P ops r true (L.setIfInBounds i true) = true) (h : SR B n cx s σ a w) (hk : semD P T n ops.toList (ops.toList.map (·.dst)) ((i, 2) :: r) K s σ) :
    wpOp P ops (onlyN Q) i (fun a' w' => stillW B w' ∧ wpAnyH P .any ops (onlyN Q) (stillW B) r.length (L.setIfInBounds i true) a' w') a w := by
  simp only [semD] at hk
  cases hi : ops.toList[i]? with
  | none => simp [hi] at hk
  | some o =>
    simp only [hi] at hk
    obtain ⟨hd, _, hk⟩ := hk
    have hi' : ops[i]? = some o := by simpa using hi
    have next : ∀ a' w', KC B n (semD P T n ops.toList (ops.toList.map (·.dst)) r K) a' w' → stillW B w' ∧ wpAnyH P .any ops (onlyN Q) (stillW B) r.length (L.setIfInBounds i true) a' w' := fun a' w' ⟨cx', s', σ', h', hk'⟩ =>
      ⟨h'.stillW, wpAnyH_mono (S' := stillW (B.re cx' s'.l T.sd w')) (fun w'' hw g hg => (hw g (.inl hg)).trans (h'.stab g hg)) _ _ _ _
        (semD_sound hT hs r true _ rfl (fun a'' w'' ⟨cx2, s2, σ2, h2, hk2⟩ => hQ a'' w'' ⟨cx2, s2, σ2, h2.ofRe hsd (fun g hg => h'.stab g hg), hk2⟩) hB (h'.re hsd)
          (fun _ => ⟨fun g hg => .inr (.inl hg), fun d cells hd hl => .inr (.inr ⟨d, cells, hd, hl, rfl⟩)⟩) hk')⟩
    unfold wpOp
    simp only [hi']
    rcases gate_wanted (ops := ops) h hk with ⟨hw, hk⟩ | ⟨hw, hk⟩
    · simp only [hw, if_true]
      exact .inl (Oper.wp_mono next (sem_sound hT hsd hd h hk))
    · simp only [hw, Bool.false_eq_true, if_false]
      exact next _ _ ⟨cx, _, σ, h.putO (dOK_spec hd) (.v (.c undef)), hk⟩
theorem AW.draw2 {Q : Exit → St → Hp → Prop} (hT : T.ok P) (hm : P.follows .mixedOrders = true) {id : Nat} {l : List Oper} (pre : List (Nat × Nat)) (i j : Nat) (r : List (Nat × Nat)) (L1 : Array Bool) (hlen : pre.length + (r.length + 2) = l.length) (hs : Region.noSelect l.toArray = true)
  (hC : schedC P l.toArray pre (Array.replicate l.length false) L1 = true) (hr : (Region.ready .any l.toArray L1 == [i, j]) = true)
  (hBi : schedB P l.toArray ((j, 2) :: r) true (L1.setIfInBounds i true) = true) (hBj : schedB P l.toArray ((i, 2) :: r) true (L1.setIfInBounds j true) = true)
  (h : semD P T n l (l.map (·.dst)) pre (fun s σ => semD P T n l (l.map (·.dst)) ((i, 2) :: (j, 2) :: r) (fun s σ => Q .normal s σ) s σ ∧ semD P T n l (l.map (·.dst)) ((j, 2) :: (i, 2) :: r) (fun s σ => Q .normal s σ) s σ) s σ) :
  AW P n (.region id l.toArray true) Q s σ :=
 fun B cx a w h1 _ h3 => by
  have h4 := h3.drew
  have h5 := h4.toAt T.sd
  refine wp_mono (Q := onlyN (fun a w => QC B n Q .normal a w)) (wp_region_held (S := stillW (B.at cx s.l T.sd w.drew)) hm ?_) (fun e a w hq => by cases e <;> first | exact hq | exact hq.elim)
  have hQ : ∀ a' w', KC (B.at cx s.l T.sd w.drew) n (fun s σ => Q .normal s σ) a' w' → QC B n Q .normal a' w' := fun a w ⟨cx', s', σ', h6, h7⟩ => ⟨cx', s', σ', h6.ofAt h1, h7⟩
  have := semD_pre hT hs (B := B.at cx s.l T.sd w.drew) (Q := fun a w => QC B n Q .normal a w) (fuel := r.length + 2) (L1 := L1)
   (K := fun s σ => semD P T n l (l.map (·.dst)) ((i, 2) :: (j, 2) :: r) (fun s σ => Q .normal s σ) s σ ∧ semD P T n l (l.map (·.dst)) ((j, 2) :: (i, 2) :: r) (fun s σ => Q .normal s σ) s σ) (fun s' a' h6 h7 => by
   refine wpAnyH_all (rs := [i, j]) (by simpa using hr) (by simp) (fun q hq => ?_)
   rcases List.mem_cons.1 hq with rfl | hq
   ·exact semD_step hT hs rfl hQ hBi h6 (by simpa using h7.1)
   ·have hq : q = j := by simpa using hq
    subst hq
    exact semD_step hT hs rfl hQ hBj h6 (by simpa using h7.2)) pre (Array.replicate l.length false) hC h5 (by simpa using h)
  rw [hlen] at this
  simpa using this
end
end Go.Abs
namespace Go.Abs
open Go
def Fit (P : Program) : Nat → TypeId → List V → Prop
  | 0, _, _ => False
  | n + 1, t, us => match P.underlying t with
    | some .bool => ∃ b, us = [.c (.bool b)]
    | some (.int k) => ∃ x, us = [.c (.int k x)] ∧ (Lit.int k x).wf = true
    | some .string => ∃ s : ByteArray, us = [.c (.string s)] ∧ s.size ≤ reachBytes
    | some (.slice e) => ∃ es : List (List V), us = [.sl es] ∧ es.length * P.bytesOf e ≤ reachBytes ∧ ∀ x ∈ es, x.length = P.cellsOf e ∧ Fit P n e x
    | some (.struct fs) => us.length = P.cellsOf t ∧ ∀ f ∈ fs.toList, Fit P n f.type ((us.drop f.offset).take (P.cellsOf f.type))
    | _ => False
def contigB (P : Program) (n : Nat) : Nat → List Field → Bool
  | o, [] => o == n
  | o, f :: fs => f.offset == o && contigB P n (o + P.cellsOf f.type) fs
def plainB (P : Program) (ts : List TypeId) : Bool := ts.all fun t => match P.underlying t with
  | some .bool | some (.int _) | some .string => true
  | some (.slice e) => ts.contains e && P.cellsOf e != 0
  | some (.struct fs) => (fs.toList.all fun f => ts.contains f.type) && contigB P (P.cellsOf t) 0 fs.toList
  | _ => false
def cx0 (W : World) : Cx := { I := fun g => g < W.heap.size, M := fun _ => .slice none 0 0, Z := fun _ => 0, nm := 0, L := fun _ => 0 }
section
variable {H : Type} {enc : TypeId × Value → H} {P : Program} {W : World} {held : Bool}
variable [Mode]
theorem lt_of_cell {w : World} {a : Addr} {v : Value} (h : w.cell? a = some v) : a.block < w.heap.size := by
 unfold World.cell? at h
 split at h
 ·rename_i h1; exact lt_of_block h1
 ·cases h
theorem weightsAll_mem {e : TypeId} : ∀ {ds : List (DataW H)} {d : DataW H}, d ∈ ds → ∀ n ∈ d.weights P e, n ∈ DataW.weightsAll P e ds
  | d0 :: ds, d, hd, n, hn => by
    simp only [DataW.weightsAll, List.mem_append]
    rcases List.mem_cons.1 hd with rfl | hd
    · exact .inl hn
    · exact .inr (weightsAll_mem hd n hn)
theorem contig_le {P : Program} {n : Nat} : ∀ {fs : List Field} {o : Nat}, contigB P n o fs = true → o ≤ n ∧ ∀ f ∈ fs, o ≤ f.offset
  | [], o, h => ⟨by simp [contigB] at h; omega, fun _ h => by cases h⟩
  | f :: fs, o, h => by
    simp only [contigB, Bool.and_eq_true, beq_iff_eq] at h
    obtain ⟨h1, h2⟩ := contig_le h.2
    refine ⟨by omega, fun g hg => ?_⟩
    rcases List.mem_cons.1 hg with rfl | hg
    · omega
    · have := h2 g hg; omega
theorem open_fields {P : Program} {cx : Cx} {Ft : TypeId → List V → Prop} {cs : List Value} {n : Nat} (hn : cs.length = n) : ∀ (fs : List Field) (o : Nat), contigB P n o fs = true →
    (∀ f ∈ fs, ∃ us, VRs W cx us ((cs.drop f.offset).take (P.cellsOf f.type)) ∧ Ft f.type us) →
    ∃ us, VRs W cx us (cs.drop o) ∧ us.length = n - o ∧ ∀ f ∈ fs, Ft f.type ((us.drop (f.offset - o)).take (P.cellsOf f.type))
  | [], o, h, _ => by
    simp [contigB] at h
    exact ⟨[], by rw [List.drop_of_length_le (by omega)]; exact .nil, by simp; omega, fun _ h => by cases h⟩
  | f :: fs, o, h, hf => by
    simp only [contigB, Bool.and_eq_true, beq_iff_eq] at h
    obtain ⟨h1, h2⟩ := h
    obtain ⟨hle, hof⟩ := contig_le h2
    obtain ⟨ur, hr1, hr2, hr3⟩ := open_fields hn fs (o + P.cellsOf f.type) h2 (fun g hg => hf g (List.mem_cons_of_mem _ hg))
    obtain ⟨uf, hf1, hf2⟩ := hf f List.mem_cons_self
    rw [h1] at hf1
    have hlf : uf.length = P.cellsOf f.type := by rw [hf1.1, List.length_take, List.length_drop]; omega
    refine ⟨uf ++ ur, ?_, by simp [hlf, hr2]; omega, fun g hg => ?_⟩
    · have := hf1.append hr1
      rw [← List.drop_drop, List.take_append_drop] at this
      exact this
    · rcases List.mem_cons.1 hg with rfl | hg
      · rw [h1, Nat.sub_self, List.drop_zero, ← hlf, List.take_left]; exact hf2
      · have h4 := hof g hg
        have h5 := hr3 g hg
        rw [List.drop_append, List.drop_of_length_le (by omega), List.nil_append, hlf, show g.offset - o - P.cellsOf f.type = g.offset - (o + P.cellsOf f.type) by omega]
        exact h5
theorem choose_below {α : Type} [Inhabited α] {n : Nat} {p : Nat → α → Prop} (h : ∀ i, i < n → ∃ x, p i x) : ∃ f : Nat → α, ∀ i, i < n → p i (f i) := by
 classical
 refine ⟨fun i => if hi : i < n then Classical.choose (h i hi) else default, fun i hi => ?_⟩
 simp only [dif_pos hi]
 exact Classical.choose_spec (h i hi)
theorem weightsEach_mem : ∀ {ts : List TypeId} {ds : List (DataW H)} {i : Nat} {t : TypeId} {d : DataW H}, ts[i]? = some t → ds[i]? = some d → ∀ n ∈ d.weights P t, n ∈ DataW.weightsEach P ts ds := DataW.weights_mem_each
end
end Go.Abs
namespace Go.Abs
open Go
section
variable {P : Program} {n : Nat} {t e : TypeId} {us : List V}
variable [Mode]
theorem Fit.int {k : IntKind} (hu : P.underlying t = some (.int k)) (h : Fit P n t us) : ∃ x, us = [.c (.int k x)] ∧ (Lit.int k x).wf = true := by
 cases n with
 | zero => exact h.elim
 | succ n => simpa only [Fit, hu] using h
theorem Fit.bool (hu : P.underlying t = some .bool) (h : Fit P n t us) : ∃ b, us = [.c (.bool b)] := by
 cases n with
 | zero => exact h.elim
 | succ n => simpa only [Fit, hu] using h
theorem Fit.str (hu : P.underlying t = some .string) (h : Fit P n t us) : ∃ s : ByteArray, us = [.c (.string s)] ∧ s.size ≤ reachBytes := by
 cases n with
 | zero => exact h.elim
 | succ n => simpa only [Fit, hu] using h
theorem Fit.sl (hu : P.underlying t = some (.slice e)) (h : Fit P n t us) : ∃ es : List (List V), us = [.sl es] ∧ es.length * P.bytesOf e ≤ reachBytes ∧ ∃ m, m < n ∧ ∀ x ∈ es, x.length = P.cellsOf e ∧ Fit P m e x := by
  cases n with
  | zero => exact h.elim
  | succ n =>
    simp only [Fit, hu] at h
    obtain ⟨es, h1, h2, h3⟩ := h
    exact ⟨es, h1, h2, n, Nat.lt_succ_self n, h3⟩
theorem Fit.st {fs : Array Field} (hu : P.underlying t = some (.struct fs)) (h : Fit P n t us) : us.length = P.cellsOf t ∧ ∃ m, m < n ∧ ∀ (i : Nat) f, fs[i]? = some f → Fit P m f.type ((us.drop f.offset).take (P.cellsOf f.type)) := by
  cases n with
  | zero => exact h.elim
  | succ n =>
    simp only [Fit, hu] at h
    exact ⟨h.1, n, Nat.lt_succ_self n, fun i f hf => h.2 f (by rw [Array.mem_toList_iff]; exact Array.mem_of_getElem? hf)⟩
theorem rows_of {α : Type} {f : α → List V} {p : α → Prop} : ∀ {es : List (List V)}, (∀ x ∈ es, ∃ a, x = f a ∧ p a) → ∃ l : List α, es = l.map f ∧ ∀ a ∈ l, p a
  | [], _ => ⟨[], rfl, fun _ h => by cases h⟩
  | x :: es, h => by
    obtain ⟨a, h1, h2⟩ := h x List.mem_cons_self
    obtain ⟨l, h3, h4⟩ := rows_of (es := es) fun y hy => h y (List.mem_cons_of_mem _ hy)
    exact ⟨a :: l, by rw [h1, h3]; rfl, fun b hb => by
      rcases List.mem_cons.1 hb with rfl | hb
      · exact h2
      · exact h4 b hb⟩
theorem VR.of_row {w : World} {cx : Cx} {us : List V} {cs : Array Value} (h : VRs w cx us (Value.agg cs).cells.toList) : VR w cx (.agg us) (.agg cs) := by
 have : VRs w cx us cs.toList := h
 have := this.agg
 simpa using this
end
end Go.Abs
namespace Go.Abs
open Go
def ze := (And.intro (And.intro (And.intro (And.intro (And.intro @Go.Abs.ev.eq_1 (And.intro @Go.Abs.ev.eq_2 @Go.Abs.ev.eq_3)) (And.intro (And.intro @Go.Abs.ev.eq_4 @Go.Abs.ofC.eq_1) (And.intro @Go.Abs.ofC.eq_2 @Go.Abs.St.putO.eq_1))) (And.intro (And.intro (And.intro @Go.Abs.St.putO.eq_2 @Go.Abs.St.put_t) (And.intro @Go.Abs.St.put_l @Go.Abs.St.new_t)) (And.intro (And.intro @Go.Abs.St.new_l @Go.Abs.St.setl_t) (And.intro @Go.Abs.St.setl_l @Go.Abs.kill.eq_1)))) (And.intro (And.intro (And.intro @Go.Abs.kill.eq_2 (And.intro @Go.Abs.enterS_t @Go.Abs.enterS_l)) (And.intro (And.intro @List.getD_cons_zero.{0} @List.getD_cons_succ.{0}) (And.intro @Option.some.injEq.{0} @true_and))) (And.intro (And.intro (And.intro @and_true @Int.toNat_natCast) (And.intro @List.length_map.{0,0} @Array.length_toList.{0})) (And.intro (And.intro @List.length_cons.{0} @List.length_nil.{0}) (And.intro @Go.Abs.Hp.setObj_obj @Go.Abs.Hp.setObj_gr))))) (And.intro (And.intro (And.intro (And.intro @Go.Abs.Hp.setGr_gr (And.intro @Go.Abs.Hp.setGr_obj @Go.Abs.Hp.setObj_setObj)) (And.intro (And.intro @Go.Abs.Hp.setGr_setGr @Go.Abs.Hp.empty_setGr) (And.intro @Go.Abs.Hp.empty_setObj @Go.Abs.retSR_normal))) (And.intro (And.intro (And.intro @Go.Abs.retSR_ret @Go.Abs.retVR.eq_1) (And.intro @Go.Abs.retVR.eq_2 @Go.Abs.thenS_normal)) (And.intro (And.intro @Go.Abs.thenS_ret @Go.Abs.thenS_exit) (And.intro @Go.Abs.inBlockS_normal @Go.Abs.inBlockS_ret)))) (And.intro (And.intro (And.intro (And.intro @Go.Abs.inBlockS_exit @Go.Abs.retS_normal) (And.intro @Go.Abs.retS_ret @Go.Abs.resVs.eq_1)) (And.intro (And.intro @Go.Abs.resVs.eq_2 @Go.Abs.resV.eq_1) (And.intro @Go.Abs.resV.eq_2 @Go.Abs.retV.eq_1))) (And.intro (And.intro (And.intro @Go.Abs.retV.eq_2 @Go.Abs.okV.eq_1) (And.intro @Go.Abs.okV.eq_2 @Go.Abs.okV.eq_3)) (And.intro (And.intro @Go.Abs.wk.eq_1 @Go.Abs.wk.eq_2) (And.intro @Go.Abs.wk1.eq_1 @Go.Abs.wk1.eq_2))))))
def zs := And.intro ze (And.intro (And.intro (And.intro (And.intro @ne_eq.{1} @imp_self) (And.intro @false_implies @Bool.not_true)) (And.intro (And.intro @Bool.not_false @Bool.false_eq_true) (And.intro @implies_true.{1} @not_true_eq_false))) (And.intro (And.intro (And.intro @not_false_eq_true @Nat.le_refl) (And.intro @Nat.zero_add @Nat.add_zero)) (And.intro (And.intro @Int.ofNat_lt @Int.ofNat_le) (And.intro @Int.natCast_nonneg (And.intro @decide_true @decide_false)))))
def zn := And.intro zs (And.intro (And.intro (And.intro (And.intro (And.intro (And.intro (And.intro @Go.Abs.semOp.eq_1 @Go.Abs.semConv.eq_def) (And.intro @Go.Abs.qConv.eq_1 (And.intro @Go.Abs.qConv.eq_2 @Go.Abs.srcE.eq_1))) (And.intro (And.intro @Go.Abs.srcE.eq_2 (And.intro @Go.Abs.srcE.eq_3 @Go.Abs.srcE.eq_4)) (And.intro @Go.Abs.qExtract.eq_1 (And.intro @Go.Abs.qExtract.eq_2 @Go.Abs.qNil.eq_1)))) (And.intro (And.intro (And.intro @Go.Abs.qNil.eq_2 @Go.Abs.qNil.eq_3) (And.intro @Go.Abs.qNil.eq_4 (And.intro @Go.Abs.qNil.eq_5 @Go.Abs.qNil.eq_6))) (And.intro (And.intro @Go.Abs.str_nil (And.intro @Go.Abs.semBin.eq_1 @List.map_eq_nil_iff.{0,0})) (And.intro @Go.Abs.isNilC.eq_1 (And.intro @Go.Abs.isNilC.eq_2 @Go.Abs.nilCmp.eq_1))))) (And.intro (And.intro (And.intro (And.intro @Go.Abs.nilCmp.eq_2 @Go.Abs.nilCmp.eq_3) (And.intro @Go.Abs.qBin.eq_1 (And.intro @Go.Abs.qBin.eq_2 @Go.Abs.qBin.eq_3))) (And.intro (And.intro @Go.Abs.qBin.eq_4 (And.intro @Go.Abs.qBin.eq_5 @Go.Abs.qBin.eq_6)) (And.intro @Go.Abs.qBin.eq_7 (And.intro @Go.Abs.qBin.eq_8 @Go.Abs.qBin.eq_9)))) (And.intro (And.intro (And.intro @Go.Abs.qBin.eq_10 (And.intro @Go.Abs.qBin.eq_11 @Go.Abs.qBin.eq_12)) (And.intro @Go.Abs.qBin.eq_13 (And.intro @Go.Abs.qBin.eq_14 @Go.Abs.qBin.eq_15))) (And.intro (And.intro @Go.Abs.qBin.eq_16 (And.intro @Go.Abs.iBin.eq_1 @Go.Abs.iBin.eq_2)) (And.intro @Go.Abs.iBin.eq_3 (And.intro @Go.Abs.iBin.eq_4 @Go.Abs.iBin.eq_5)))))) (And.intro (And.intro (And.intro (And.intro (And.intro @Go.Abs.iBin.eq_6 @Go.Abs.iBin.eq_7) (And.intro @Go.Abs.iBin.eq_8 (And.intro @Go.Abs.iBin.eq_9 @Go.Abs.iBin.eq_10))) (And.intro (And.intro @Go.Abs.iBin.eq_11 (And.intro @Go.Abs.iBin.eq_12 @Go.Abs.iBin.eq_13)) (And.intro @Go.Abs.iBin.eq_14 (And.intro @Go.Abs.iBin.eq_15 @Go.Abs.iBin.eq_16)))) (And.intro (And.intro (And.intro @Go.Abs.iBin.eq_17 (And.intro @Go.Abs.sBin.eq_1 @Go.Abs.sBin.eq_2)) (And.intro @Go.Abs.sBin.eq_3 (And.intro @Go.Abs.sBin.eq_4 @Go.Abs.sBin.eq_5))) (And.intro (And.intro @Go.Abs.sBin.eq_6 (And.intro @Go.Abs.sBin.eq_7 @Go.Abs.sBin.eq_8)) (And.intro @Go.Abs.qUn.eq_1 (And.intro @Go.Abs.qUn.eq_2 @Go.Abs.qUn.eq_3))))) (And.intro (And.intro (And.intro (And.intro @Go.Abs.qUn.eq_4 @Go.Abs.qUn.eq_5) (And.intro @Go.Abs.qUn.eq_6 (And.intro @Go.Abs.qLoad.eq_1 @Go.Abs.qLoad.eq_2))) (And.intro (And.intro @Go.Abs.qLoad.eq_3 (And.intro @Go.Abs.qLoad.eq_4 @Go.Abs.qLoad.eq_5)) (And.intro @Go.Abs.cut.eq_1 (And.intro @List.drop_zero.{0} @List.take_succ_cons.{0})))) (And.intro (And.intro (And.intro @List.take_zero.{0} (And.intro @List.drop_succ_cons.{0} @Go.Abs.semStore.eq_1)) (And.intro @Go.Abs.cellsV.eq_1 (And.intro @Go.Abs.cellsV.eq_2 @Go.Abs.cellsV.eq_3))) (And.intro (And.intro @Go.Abs.cellsV.eq_4 (And.intro @Go.Abs.cellsV.eq_5 @Go.Abs.cellsV.eq_6)) (And.intro @Go.Abs.cellsV.eq_7 (And.intro @Go.Abs.flag.eq_1 @Go.Abs.flag.eq_2))))))) (And.intro (And.intro (And.intro (And.intro (And.intro (And.intro @Go.Abs.splice.eq_1 @List.nil_append.{0}) (And.intro @List.cons_append.{0} (And.intro @List.append_nil.{0} @List.drop_nil.{0}))) (And.intro (And.intro @Go.Abs.semAlloc.eq_1 (And.intro @Go.Abs.semAlloc.eq_2 @Go.Value.cells.eq_1)) (And.intro @Go.Value.cells.eq_2 (And.intro @Go.Abs.oneAll.eq_1 @List.all_cons.{0})))) (And.intro (And.intro (And.intro @List.all_nil.{0} (And.intro @Go.Value.oneCell'.eq_1 @Go.Value.oneCell'.eq_2)) (And.intro @Go.Value.oneCell'.eq_3 (And.intro @Bool.and_self @List.map.eq_1.{0,0}))) (And.intro (And.intro @List.map.eq_2.{0,0} (And.intro @Go.Abs.semBox.eq_def @Go.Abs.semCall.eq_1)) (And.intro @Go.Abs.qLen.eq_1 (And.intro @Go.Abs.qLen.eq_2 @Go.Abs.qLen.eq_3))))) (And.intro (And.intro (And.intro (And.intro @Go.Abs.qLen.eq_4 (And.intro @Go.Abs.qLen.eq_5 @Go.Abs.qLen.eq_6)) (And.intro @Bool.and_true (And.intro @Go.Abs.semAppend.eq_1 @Go.Abs.dstE.eq_1))) (And.intro (And.intro @Go.Abs.dstE.eq_2 (And.intro @Go.Abs.dstE.eq_3 @Go.Abs.Hp.delO.eq_1)) (And.intro @Go.Abs.Hp.delO.eq_2 (And.intro @Go.Abs.semAppendN.eq_1 @Go.Abs.semAppendN.eq_2)))) (And.intro (And.intro (And.intro @List.size_toArray.{0} (And.intro @Go.Abs.qField.eq_1 @Go.Abs.shiftV.eq_1)) (And.intro @Go.Abs.shiftV.eq_2 (And.intro @Go.Abs.shiftV.eq_3 @Go.Abs.shiftV.eq_4))) (And.intro (And.intro @Go.Abs.shiftV.eq_5 (And.intro @Go.Abs.qFieldV.eq_1 @Go.Abs.qFieldV.eq_2)) (And.intro @Go.Abs.qIndexAddr.eq_1 (And.intro @Go.Abs.qIndexAddr.eq_2 @Go.Abs.qIndexAddr.eq_3)))))) (And.intro (And.intro (And.intro (And.intro (And.intro (And.intro @Go.Abs.qIndexAddr.eq_4 @Go.Abs.qIndexAddr.eq_5) (And.intro @Go.Abs.qIndex.eq_1 (And.intro @Go.Abs.semView.eq_def @Go.Abs.semClear.eq_def))) (And.intro @Go.Abs.qIndex.eq_2 (And.intro @Go.Abs.qIndex.eq_3 @Go.Abs.semCut.eq_def))) (And.intro (And.intro @List.length_replicate.{0} (And.intro @Go.Abs.qSlice.eq_1 @Go.Abs.qSlice.eq_2)) (And.intro @Go.Abs.qSlice.eq_3 (And.intro @Go.Abs.qSlice.eq_4 @Go.Abs.loV.eq_1)))) (And.intro (And.intro (And.intro @Go.Abs.loV.eq_2 (And.intro @Go.Abs.loV.eq_3 @Go.Abs.hiV.eq_1)) (And.intro @Go.Abs.hiV.eq_2 (And.intro @Go.Abs.hiV.eq_3 @Option.map.eq_1.{0,0}))) (And.intro (And.intro @Option.map.eq_2.{0,0} (And.intro @Go.Abs.semMakeMap.eq_1 @Go.Abs.semMakeMap.eq_2)) (And.intro @Go.Abs.semLookup.eq_def (And.intro @Go.Abs.keyVal.eq_1 @Go.Abs.keyVal.eq_2))))) (And.intro (And.intro (And.intro (And.intro @Go.Abs.keyVal.eq_3 @Go.Abs.toCs.eq_1) (And.intro @Go.Abs.toCs.eq_2 (And.intro @Go.Abs.toC.eq_1 @Go.Abs.toC.eq_2))) (And.intro (And.intro @Option.map_some.{0,0} (And.intro @Go.Abs.semUpdate.eq_def @Go.Abs.qBuild.eq_1)) (And.intro @and_self (And.intro @Go.Abs.fillV.eq_1 @Go.Abs.fillV.eq_2)))) (And.intro (And.intro (And.intro @List.getElem?_toArray.{0} (And.intro @List.getElem?_cons_zero.{0} @List.getElem?_cons_succ.{0})) (And.intro @Go.Abs.semMake.eq_1 (And.intro @Go.Abs.semMake.eq_2 @Go.Abs.semBuildSlice.eq_1))) (And.intro (And.intro @Go.Abs.allCells.eq_1 (And.intro @Go.Abs.allCells.eq_2 @Nat.zero_mul)) (And.intro @Nat.zero_le (And.intro @beq_self_eq_true.{0} @Nat.one_mul))))))))
def zz := And.intro zn (And.intro @exists_and_left.{1} @exists_eq_left'.{1})
def zb := And.intro zz (And.intro (And.intro @List.range_zero (And.intro @List.not_mem_nil.{0} @exists_eq'.{1})) (And.intro (And.intro @exists_eq.{1} @List.range_one) (And.intro @List.mem_singleton.{0} @forall_eq.{1})))
def okd (n : Nat) : Option Nat → Bool
  | some d => Nat.blt d n
  | none => true
theorem okd_ok {n : Nat} {d : Option Nat} (h : okd n d = true) : dOK n d := by
 cases d with
 | none => trivial
 | some d => exact Nat.le_of_ble_eq_true h
section
variable {P : Program} {T : Tab} {n : Nat} {s : St} {σ : Hp} {K : St → Hp → Prop} {ds : List (Option Nat)} {o : Oper} {r : List Oper}
variable [Mode]
theorem S.g (hd : okd n o.dst = true) (hg : o.guard = none)
  (h : ∀ K' : St → Hp → Prop, (∀ s σ, semL P T n ds r K s σ → K' s σ) → semOp P T o K' s σ) : semL P T n ds (o :: r) K s σ := S.go (okd_ok hd) hg h
theorem S.y {j d : Nat} {b : Bool} (hd : okd n o.dst = true) (hg : o.guard = some (j, b)) (hj : ds[j]? = some (some d)) (hb : s.t d = .c (.bool b))
  (h : ∀ K' : St → Hp → Prop, (∀ s σ, semL P T n ds r K s σ → K' s σ) → semOp P T o K' s σ) : semL P T n ds (o :: r) K s σ := S.yes (okd_ok hd) hg hj hb h
theorem S.x {j d : Nat} {b : Bool} (hd : okd n o.dst = true) (hg : o.guard = some (j, b)) (hj : ds[j]? = some (some d)) (hb : s.t d = .c (.bool (!b)))
  (h : ∀ K' : St → Hp → Prop, (∀ s σ, semL P T n ds r K s σ → K' s σ) → K' (s.putO o.dst (.c undef)) σ) : semL P T n ds (o :: r) K s σ := S.no (okd_ok hd) hg hj hb h
theorem S.u {j d : Nat} {b : Bool} (hd : okd n o.dst = true) (hg : o.guard = some (j, b)) (hj : ds[j]? = some (some d)) (hb : s.t d = .c undef)
  (h : ∀ K' : St → Hp → Prop, (∀ s σ, semL P T n ds r K s σ → K' s σ) → K' (s.putO o.dst (.c undef)) σ) : semL P T n ds (o :: r) K s σ := S.un (okd_ok hd) hg hj hb h
variable {ops : List Oper} {i k : Nat} {l : List (Nat × Nat)}
theorem D.g (ho : ops[i]? = some o) (hs : stC T s k o.op) (hd : okd n o.dst = true) (hg : o.guard = none)
  (h : ∀ K' : St → Hp → Prop, (∀ s σ, semD P T n ops ds l K s σ → K' s σ) → semOp P T o K' s σ) : semD P T n ops ds ((i, k) :: l) K s σ := D.go ho hs (okd_ok hd) hg h
theorem D.y {j d : Nat} {b : Bool} (ho : ops[i]? = some o) (hs : stC T s k o.op) (hd : okd n o.dst = true) (hg : o.guard = some (j, b)) (hj : ds[j]? = some (some d)) (hb : s.t d = .c (.bool b))
  (h : ∀ K' : St → Hp → Prop, (∀ s σ, semD P T n ops ds l K s σ → K' s σ) → semOp P T o K' s σ) : semD P T n ops ds ((i, k) :: l) K s σ := D.yes ho hs (okd_ok hd) hg hj hb h
theorem D.x {j d : Nat} {b : Bool} (ho : ops[i]? = some o) (hk : k = 1 → isLoad o.op = true) (hd : okd n o.dst = true) (hg : o.guard = some (j, b)) (hj : ds[j]? = some (some d)) (hb : s.t d = .c (.bool (!b)))
  (h : ∀ K' : St → Hp → Prop, (∀ s σ, semD P T n ops ds l K s σ → K' s σ) → K' (s.putO o.dst (.c undef)) σ) : semD P T n ops ds ((i, k) :: l) K s σ := D.no ho hk (okd_ok hd) hg hj hb h
theorem D.u {j d : Nat} {b : Bool} (ho : ops[i]? = some o) (hk : k = 1 → isLoad o.op = true) (hd : okd n o.dst = true) (hg : o.guard = some (j, b)) (hj : ds[j]? = some (some d)) (hb : s.t d = .c undef)
  (h : ∀ K' : St → Hp → Prop, (∀ s σ, semD P T n ops ds l K s σ → K' s σ) → K' (s.putO o.dst (.c undef)) σ) : semD P T n ops ds ((i, k) :: l) K s σ := D.un ho hk (okd_ok hd) hg hj hb h
end
end Go.Abs
namespace Go.Abs.M
open Go Go.Abs Go.Proofs
theorem t2 : okT Tryz.prog 2 = true ∧ szT Tryz.prog 2 = 1 ∧ aggT Tryz.prog 2 = false ∧ zeroT Tryz.prog 2 = some (.int Go.IntKind.i64 (0)) ∧ Program.bytesOf Tryz.prog 2 = 8 ∧ slT Tryz.prog 2 = false ∧ strT Tryz.prog 2 = false := by and_intros <;> kernel_rfl
theorem t3 : okT Tryz.prog 3 = true ∧ szT Tryz.prog 3 = 1 ∧ aggT Tryz.prog 3 = false ∧ zeroT Tryz.prog 3 = some (.int Go.IntKind.i64 (0)) ∧ Program.bytesOf Tryz.prog 3 = 8 ∧ slT Tryz.prog 3 = false ∧ strT Tryz.prog 3 = false := by and_intros <;> kernel_rfl
theorem t4 : okT Tryz.prog 4 = true ∧ szT Tryz.prog 4 = 1 ∧ aggT Tryz.prog 4 = false ∧ zeroT Tryz.prog 4 = some (.bool false) ∧ Program.bytesOf Tryz.prog 4 = 1 ∧ slT Tryz.prog 4 = false ∧ strT Tryz.prog 4 = false ∧ Program.underlying Tryz.prog 4 = some .bool := by and_intros <;> kernel_rfl
theorem t5 : okT Tryz.prog 5 = true ∧ szT Tryz.prog 5 = 1 ∧ aggT Tryz.prog 5 = false ∧ zeroT Tryz.prog 5 = some (.int Go.IntKind.u8 (0)) ∧ Program.bytesOf Tryz.prog 5 = 1 ∧ slT Tryz.prog 5 = false ∧ strT Tryz.prog 5 = false := by and_intros <;> kernel_rfl
theorem t6 : okT Tryz.prog 6 = true ∧ szT Tryz.prog 6 = 1 ∧ aggT Tryz.prog 6 = false ∧ zeroT Tryz.prog 6 = some (.int Go.IntKind.u8 (0)) ∧ Program.bytesOf Tryz.prog 6 = 1 ∧ slT Tryz.prog 6 = false ∧ strT Tryz.prog 6 = false := by and_intros <;> kernel_rfl
theorem t7 : okT Tryz.prog 7 = true ∧ szT Tryz.prog 7 = 4 ∧ aggT Tryz.prog 7 = true ∧ zeroT Tryz.prog 7 = some (.agg #[.int Go.IntKind.i64 (0), .int Go.IntKind.i64 (0), .bool false, .int Go.IntKind.u8 (0)]) ∧ Program.bytesOf Tryz.prog 7 = 24 ∧ slT Tryz.prog 7 = false ∧ strT Tryz.prog 7 = false ∧ offT Tryz.prog 7 0 = some 0 ∧ offT Tryz.prog 7 1 = some 1 ∧ offT Tryz.prog 7 2 = some 2 ∧ offT Tryz.prog 7 3 = some 3 ∧ placeT Tryz.prog 7 = some (fun i => (#[(0, 1), (1, 1), (2, 1), (3, 1)] : Array (Nat × Nat))[i]?) := by and_intros <;> kernel_rfl
theorem t8 : okT Tryz.prog 8 = true ∧ szT Tryz.prog 8 = 4 ∧ aggT Tryz.prog 8 = true ∧ zeroT Tryz.prog 8 = some (.agg #[.int Go.IntKind.i64 (0), .int Go.IntKind.i64 (0), .bool false, .int Go.IntKind.u8 (0)]) ∧ Program.bytesOf Tryz.prog 8 = 24 ∧ slT Tryz.prog 8 = false ∧ strT Tryz.prog 8 = false ∧ offT Tryz.prog 8 0 = some 0 ∧ offT Tryz.prog 8 1 = some 1 ∧ offT Tryz.prog 8 2 = some 2 ∧ offT Tryz.prog 8 3 = some 3 ∧ placeT Tryz.prog 8 = some (fun i => (#[(0, 1), (1, 1), (2, 1), (3, 1)] : Array (Nat × Nat))[i]?) := by and_intros <;> kernel_rfl
theorem t9 : okT Tryz.prog 9 = true ∧ szT Tryz.prog 9 = 1 ∧ aggT Tryz.prog 9 = false ∧ zeroT Tryz.prog 9 = some (.string ⟨#[]⟩) ∧ Program.bytesOf Tryz.prog 9 = 16 ∧ slT Tryz.prog 9 = false ∧ strT Tryz.prog 9 = true := by and_intros <;> kernel_rfl
theorem t10 : okT Tryz.prog 10 = true ∧ szT Tryz.prog 10 = 1 ∧ aggT Tryz.prog 10 = false ∧ zeroT Tryz.prog 10 = some (.string ⟨#[]⟩) ∧ Program.bytesOf Tryz.prog 10 = 16 ∧ slT Tryz.prog 10 = false ∧ strT Tryz.prog 10 = true := by and_intros <;> kernel_rfl
theorem t11 : okT Tryz.prog 11 = true ∧ szT Tryz.prog 11 = 1 ∧ aggT Tryz.prog 11 = false ∧ zeroT Tryz.prog 11 = some (.string ⟨#[]⟩) ∧ Program.bytesOf Tryz.prog 11 = 16 ∧ slT Tryz.prog 11 = false ∧ strT Tryz.prog 11 = true := by and_intros <;> kernel_rfl
theorem t12 : okT Tryz.prog 12 = true ∧ szT Tryz.prog 12 = 1 ∧ aggT Tryz.prog 12 = false ∧ zeroT Tryz.prog 12 = some (.int Go.IntKind.u64 (0)) ∧ Program.bytesOf Tryz.prog 12 = 8 ∧ slT Tryz.prog 12 = false ∧ strT Tryz.prog 12 = false := by and_intros <;> kernel_rfl
theorem t13 : okT Tryz.prog 13 = true ∧ szT Tryz.prog 13 = 2 ∧ aggT Tryz.prog 13 = true ∧ zeroT Tryz.prog 13 = some (.agg #[.string ⟨#[]⟩, .int Go.IntKind.u64 (0)]) ∧ Program.bytesOf Tryz.prog 13 = 24 ∧ slT Tryz.prog 13 = false ∧ strT Tryz.prog 13 = false ∧ offT Tryz.prog 13 0 = some 0 ∧ offT Tryz.prog 13 1 = some 1 ∧ placeT Tryz.prog 13 = some (fun i => (#[(0, 1), (1, 1)] : Array (Nat × Nat))[i]?) := by and_intros <;> kernel_rfl
theorem t14 : okT Tryz.prog 14 = true ∧ szT Tryz.prog 14 = 2 ∧ aggT Tryz.prog 14 = true ∧ zeroT Tryz.prog 14 = some (.agg #[.string ⟨#[]⟩, .int Go.IntKind.u64 (0)]) ∧ Program.bytesOf Tryz.prog 14 = 24 ∧ slT Tryz.prog 14 = false ∧ strT Tryz.prog 14 = false ∧ offT Tryz.prog 14 0 = some 0 ∧ offT Tryz.prog 14 1 = some 1 ∧ placeT Tryz.prog 14 = some (fun i => (#[(0, 1), (1, 1)] : Array (Nat × Nat))[i]?) := by and_intros <;> kernel_rfl
theorem t15 : okT Tryz.prog 15 = true ∧ szT Tryz.prog 15 = 1 ∧ aggT Tryz.prog 15 = false ∧ zeroT Tryz.prog 15 = some (.pointer none) ∧ Program.bytesOf Tryz.prog 15 = 8 ∧ slT Tryz.prog 15 = false ∧ strT Tryz.prog 15 = false ∧ Program.underlying Tryz.prog 15 = some (.pointer 268) := by and_intros <;> kernel_rfl
theorem t16 : okT Tryz.prog 16 = true ∧ szT Tryz.prog 16 = 1 ∧ aggT Tryz.prog 16 = false ∧ zeroT Tryz.prog 16 = some (.pointer none) ∧ Program.bytesOf Tryz.prog 16 = 8 ∧ slT Tryz.prog 16 = false ∧ strT Tryz.prog 16 = false ∧ Program.underlying Tryz.prog 16 = some (.pointer 271) := by and_intros <;> kernel_rfl
theorem t17 : okT Tryz.prog 17 = true ∧ szT Tryz.prog 17 = 1 ∧ aggT Tryz.prog 17 = false ∧ zeroT Tryz.prog 17 = some (.pointer none) ∧ Program.bytesOf Tryz.prog 17 = 8 ∧ slT Tryz.prog 17 = false ∧ strT Tryz.prog 17 = false ∧ Program.underlying Tryz.prog 17 = some (.pointer 280) := by and_intros <;> kernel_rfl
theorem t18 : okT Tryz.prog 18 = true ∧ szT Tryz.prog 18 = 1 ∧ aggT Tryz.prog 18 = true ∧ zeroT Tryz.prog 18 = some (.agg #[.pointer none]) ∧ Program.bytesOf Tryz.prog 18 = 8 ∧ slT Tryz.prog 18 = false ∧ strT Tryz.prog 18 = false ∧ offT Tryz.prog 18 0 = some 0 ∧ placeT Tryz.prog 18 = some (fun i => (#[(0, 1)] : Array (Nat × Nat))[i]?) := by and_intros <;> kernel_rfl
theorem t19 : okT Tryz.prog 19 = true ∧ szT Tryz.prog 19 = 1 ∧ aggT Tryz.prog 19 = true ∧ zeroT Tryz.prog 19 = some (.agg #[.pointer none]) ∧ Program.bytesOf Tryz.prog 19 = 8 ∧ slT Tryz.prog 19 = false ∧ strT Tryz.prog 19 = false ∧ offT Tryz.prog 19 0 = some 0 ∧ placeT Tryz.prog 19 = some (fun i => (#[(0, 1)] : Array (Nat × Nat))[i]?) := by and_intros <;> kernel_rfl
theorem t21 : okT Tryz.prog 21 = true ∧ szT Tryz.prog 21 = 1 ∧ aggT Tryz.prog 21 = false ∧ zeroT Tryz.prog 21 = some (.int Go.IntKind.i32 (0)) ∧ Program.bytesOf Tryz.prog 21 = 4 ∧ slT Tryz.prog 21 = false ∧ strT Tryz.prog 21 = false := by and_intros <;> kernel_rfl
theorem t22 : okT Tryz.prog 22 = true ∧ szT Tryz.prog 22 = 1 ∧ aggT Tryz.prog 22 = false ∧ zeroT Tryz.prog 22 = some (.slice none 0 0) ∧ Program.bytesOf Tryz.prog 22 = 24 ∧ slT Tryz.prog 22 = true ∧ Program.elem Tryz.prog 22 = 47 ∧ strT Tryz.prog 22 = false := by and_intros <;> kernel_rfl
theorem t23 : okT Tryz.prog 23 = true ∧ szT Tryz.prog 23 = 1 ∧ aggT Tryz.prog 23 = false ∧ zeroT Tryz.prog 23 = some (.slice none 0 0) ∧ Program.bytesOf Tryz.prog 23 = 24 ∧ slT Tryz.prog 23 = true ∧ Program.elem Tryz.prog 23 = 25 ∧ strT Tryz.prog 23 = false := by and_intros <;> kernel_rfl
theorem t24 : okT Tryz.prog 24 = true ∧ szT Tryz.prog 24 = 5 ∧ aggT Tryz.prog 24 = true ∧ zeroT Tryz.prog 24 = some (.agg #[.int Go.IntKind.i64 (0), .string ⟨#[]⟩, .string ⟨#[]⟩, .slice none 0 0, .slice none 0 0]) ∧ Program.bytesOf Tryz.prog 24 = 88 ∧ slT Tryz.prog 24 = false ∧ strT Tryz.prog 24 = false ∧ offT Tryz.prog 24 0 = some 0 ∧ offT Tryz.prog 24 1 = some 1 ∧ offT Tryz.prog 24 2 = some 2 ∧ offT Tryz.prog 24 3 = some 3 ∧ offT Tryz.prog 24 4 = some 4 ∧ placeT Tryz.prog 24 = some (fun i => (#[(0, 1), (1, 1), (2, 1), (3, 1), (4, 1)] : Array (Nat × Nat))[i]?) := by and_intros <;> kernel_rfl
theorem t25 : okT Tryz.prog 25 = true ∧ szT Tryz.prog 25 = 5 ∧ aggT Tryz.prog 25 = true ∧ zeroT Tryz.prog 25 = some (.agg #[.int Go.IntKind.i64 (0), .string ⟨#[]⟩, .string ⟨#[]⟩, .slice none 0 0, .slice none 0 0]) ∧ Program.bytesOf Tryz.prog 25 = 88 ∧ slT Tryz.prog 25 = false ∧ strT Tryz.prog 25 = false ∧ offT Tryz.prog 25 0 = some 0 ∧ offT Tryz.prog 25 1 = some 1 ∧ offT Tryz.prog 25 2 = some 2 ∧ offT Tryz.prog 25 3 = some 3 ∧ offT Tryz.prog 25 4 = some 4 ∧ placeT Tryz.prog 25 = some (fun i => (#[(0, 1), (1, 1), (2, 1), (3, 1), (4, 1)] : Array (Nat × Nat))[i]?) := by and_intros <;> kernel_rfl
theorem t26 : okT Tryz.prog 26 = true ∧ szT Tryz.prog 26 = 8 ∧ aggT Tryz.prog 26 = true ∧ zeroT Tryz.prog 26 = some (.agg #[.string ⟨#[]⟩, .int Go.IntKind.i64 (0), .int Go.IntKind.i64 (0), .string ⟨#[]⟩, .string ⟨#[]⟩, .slice none 0 0, .slice none 0 0, .slice none 0 0]) ∧ Program.bytesOf Tryz.prog 26 = 136 ∧ slT Tryz.prog 26 = false ∧ strT Tryz.prog 26 = false ∧ offT Tryz.prog 26 0 = some 0 ∧ offT Tryz.prog 26 1 = some 1 ∧ offT Tryz.prog 26 2 = some 2 ∧ offT Tryz.prog 26 3 = some 7 ∧ placeT Tryz.prog 26 = some (fun i => (#[(0, 1), (1, 1), (2, 5), (7, 1)] : Array (Nat × Nat))[i]?) := by and_intros <;> kernel_rfl
theorem t27 : okT Tryz.prog 27 = true ∧ szT Tryz.prog 27 = 8 ∧ aggT Tryz.prog 27 = true ∧ zeroT Tryz.prog 27 = some (.agg #[.string ⟨#[]⟩, .int Go.IntKind.i64 (0), .int Go.IntKind.i64 (0), .string ⟨#[]⟩, .string ⟨#[]⟩, .slice none 0 0, .slice none 0 0, .slice none 0 0]) ∧ Program.bytesOf Tryz.prog 27 = 136 ∧ slT Tryz.prog 27 = false ∧ strT Tryz.prog 27 = false ∧ offT Tryz.prog 27 0 = some 0 ∧ offT Tryz.prog 27 1 = some 1 ∧ offT Tryz.prog 27 2 = some 2 ∧ offT Tryz.prog 27 3 = some 7 ∧ placeT Tryz.prog 27 = some (fun i => (#[(0, 1), (1, 1), (2, 5), (7, 1)] : Array (Nat × Nat))[i]?) := by and_intros <;> kernel_rfl
theorem t30 : okT Tryz.prog 30 = true ∧ szT Tryz.prog 30 = 1 ∧ aggT Tryz.prog 30 = false ∧ zeroT Tryz.prog 30 = some (.slice none 0 0) ∧ Program.bytesOf Tryz.prog 30 = 24 ∧ slT Tryz.prog 30 = true ∧ Program.elem Tryz.prog 30 = 41 ∧ strT Tryz.prog 30 = false := by and_intros <;> kernel_rfl
theorem t31 : okT Tryz.prog 31 = true ∧ szT Tryz.prog 31 = 1 ∧ aggT Tryz.prog 31 = false ∧ zeroT Tryz.prog 31 = some (.slice none 0 0) ∧ Program.bytesOf Tryz.prog 31 = 24 ∧ slT Tryz.prog 31 = true ∧ Program.elem Tryz.prog 31 = 48 ∧ strT Tryz.prog 31 = false := by and_intros <;> kernel_rfl
theorem t32 : okT Tryz.prog 32 = true ∧ szT Tryz.prog 32 = 2 ∧ aggT Tryz.prog 32 = true ∧ zeroT Tryz.prog 32 = some (.agg #[.slice none 0 0, .slice none 0 0]) ∧ Program.bytesOf Tryz.prog 32 = 48 ∧ slT Tryz.prog 32 = false ∧ strT Tryz.prog 32 = false ∧ offT Tryz.prog 32 0 = some 0 ∧ offT Tryz.prog 32 1 = some 1 ∧ placeT Tryz.prog 32 = some (fun i => (#[(0, 1), (1, 1)] : Array (Nat × Nat))[i]?) := by and_intros <;> kernel_rfl
theorem t33 : okT Tryz.prog 33 = true ∧ szT Tryz.prog 33 = 2 ∧ aggT Tryz.prog 33 = true ∧ zeroT Tryz.prog 33 = some (.agg #[.slice none 0 0, .slice none 0 0]) ∧ Program.bytesOf Tryz.prog 33 = 48 ∧ slT Tryz.prog 33 = false ∧ strT Tryz.prog 33 = false ∧ offT Tryz.prog 33 0 = some 0 ∧ offT Tryz.prog 33 1 = some 1 ∧ placeT Tryz.prog 33 = some (fun i => (#[(0, 1), (1, 1)] : Array (Nat × Nat))[i]?) := by and_intros <;> kernel_rfl
theorem t34 : okT Tryz.prog 34 = true ∧ szT Tryz.prog 34 = 1 ∧ aggT Tryz.prog 34 = false ∧ zeroT Tryz.prog 34 = some (.int Go.IntKind.i64 (0)) ∧ Program.bytesOf Tryz.prog 34 = 8 ∧ slT Tryz.prog 34 = false ∧ strT Tryz.prog 34 = false := by and_intros <;> kernel_rfl
theorem t40 : okT Tryz.prog 40 = true ∧ szT Tryz.prog 40 = 7 ∧ aggT Tryz.prog 40 = true ∧ zeroT Tryz.prog 40 = some (.agg #[.int Go.IntKind.i64 (0), .string ⟨#[]⟩, .string ⟨#[]⟩, .slice none 0 0, .slice none 0 0, .int Go.IntKind.i64 (0), .int Go.IntKind.i64 (0)]) ∧ Program.bytesOf Tryz.prog 40 = 104 ∧ slT Tryz.prog 40 = false ∧ strT Tryz.prog 40 = false ∧ offT Tryz.prog 40 0 = some 0 ∧ offT Tryz.prog 40 1 = some 1 ∧ offT Tryz.prog 40 2 = some 2 ∧ offT Tryz.prog 40 3 = some 3 ∧ offT Tryz.prog 40 4 = some 4 ∧ offT Tryz.prog 40 5 = some 5 ∧ offT Tryz.prog 40 6 = some 6 ∧ placeT Tryz.prog 40 = some (fun i => (#[(0, 1), (1, 1), (2, 1), (3, 1), (4, 1), (5, 1), (6, 1)] : Array (Nat × Nat))[i]?) := by and_intros <;> kernel_rfl
theorem t41 : okT Tryz.prog 41 = true ∧ szT Tryz.prog 41 = 7 ∧ aggT Tryz.prog 41 = true ∧ zeroT Tryz.prog 41 = some (.agg #[.int Go.IntKind.i64 (0), .string ⟨#[]⟩, .string ⟨#[]⟩, .slice none 0 0, .slice none 0 0, .int Go.IntKind.i64 (0), .int Go.IntKind.i64 (0)]) ∧ Program.bytesOf Tryz.prog 41 = 104 ∧ slT Tryz.prog 41 = false ∧ strT Tryz.prog 41 = false ∧ offT Tryz.prog 41 0 = some 0 ∧ offT Tryz.prog 41 1 = some 1 ∧ offT Tryz.prog 41 2 = some 2 ∧ offT Tryz.prog 41 3 = some 3 ∧ offT Tryz.prog 41 4 = some 4 ∧ offT Tryz.prog 41 5 = some 5 ∧ offT Tryz.prog 41 6 = some 6 ∧ placeT Tryz.prog 41 = some (fun i => (#[(0, 1), (1, 1), (2, 1), (3, 1), (4, 1), (5, 1), (6, 1)] : Array (Nat × Nat))[i]?) := by and_intros <;> kernel_rfl
theorem t42 : okT Tryz.prog 42 = true ∧ szT Tryz.prog 42 = 3 ∧ aggT Tryz.prog 42 = true ∧ zeroT Tryz.prog 42 = some (.agg #[.int Go.IntKind.i64 (0), .int Go.IntKind.i64 (0), .string ⟨#[]⟩]) ∧ Program.bytesOf Tryz.prog 42 = 32 ∧ slT Tryz.prog 42 = false ∧ strT Tryz.prog 42 = false ∧ offT Tryz.prog 42 0 = some 0 ∧ offT Tryz.prog 42 1 = some 1 ∧ offT Tryz.prog 42 2 = some 2 ∧ placeT Tryz.prog 42 = some (fun i => (#[(0, 1), (1, 1), (2, 1)] : Array (Nat × Nat))[i]?) := by and_intros <;> kernel_rfl
theorem t43 : okT Tryz.prog 43 = true ∧ szT Tryz.prog 43 = 3 ∧ aggT Tryz.prog 43 = true ∧ zeroT Tryz.prog 43 = some (.agg #[.int Go.IntKind.i64 (0), .int Go.IntKind.i64 (0), .string ⟨#[]⟩]) ∧ Program.bytesOf Tryz.prog 43 = 32 ∧ slT Tryz.prog 43 = false ∧ strT Tryz.prog 43 = false ∧ offT Tryz.prog 43 0 = some 0 ∧ offT Tryz.prog 43 1 = some 1 ∧ offT Tryz.prog 43 2 = some 2 ∧ placeT Tryz.prog 43 = some (fun i => (#[(0, 1), (1, 1), (2, 1)] : Array (Nat × Nat))[i]?) := by and_intros <;> kernel_rfl
theorem t44 : okT Tryz.prog 44 = true ∧ szT Tryz.prog 44 = 5 ∧ aggT Tryz.prog 44 = true ∧ zeroT Tryz.prog 44 = some (.agg #[.string ⟨#[]⟩, .string ⟨#[]⟩, .int Go.IntKind.i64 (0), .int Go.IntKind.i64 (0), .string ⟨#[]⟩]) ∧ Program.bytesOf Tryz.prog 44 = 64 ∧ slT Tryz.prog 44 = false ∧ strT Tryz.prog 44 = false ∧ offT Tryz.prog 44 0 = some 0 ∧ offT Tryz.prog 44 1 = some 1 ∧ offT Tryz.prog 44 2 = some 2 ∧ placeT Tryz.prog 44 = some (fun i => (#[(0, 1), (1, 1), (2, 3)] : Array (Nat × Nat))[i]?) := by and_intros <;> kernel_rfl
theorem t45 : okT Tryz.prog 45 = true ∧ szT Tryz.prog 45 = 5 ∧ aggT Tryz.prog 45 = true ∧ zeroT Tryz.prog 45 = some (.agg #[.string ⟨#[]⟩, .string ⟨#[]⟩, .int Go.IntKind.i64 (0), .int Go.IntKind.i64 (0), .string ⟨#[]⟩]) ∧ Program.bytesOf Tryz.prog 45 = 64 ∧ slT Tryz.prog 45 = false ∧ strT Tryz.prog 45 = false ∧ offT Tryz.prog 45 0 = some 0 ∧ offT Tryz.prog 45 1 = some 1 ∧ offT Tryz.prog 45 2 = some 2 ∧ placeT Tryz.prog 45 = some (fun i => (#[(0, 1), (1, 1), (2, 3)] : Array (Nat × Nat))[i]?) := by and_intros <;> kernel_rfl
theorem t46 : okT Tryz.prog 46 = true ∧ szT Tryz.prog 46 = 11 ∧ aggT Tryz.prog 46 = true ∧ zeroT Tryz.prog 46 = some (.agg #[.string ⟨#[]⟩, .string ⟨#[]⟩, .int Go.IntKind.i64 (0), .int Go.IntKind.i64 (0), .string ⟨#[]⟩, .int Go.IntKind.i64 (0), .string ⟨#[]⟩, .string ⟨#[]⟩, .int Go.IntKind.i64 (0), .int Go.IntKind.i64 (0), .string ⟨#[]⟩]) ∧ Program.bytesOf Tryz.prog 46 = 136 ∧ slT Tryz.prog 46 = false ∧ strT Tryz.prog 46 = false ∧ offT Tryz.prog 46 0 = some 0 ∧ offT Tryz.prog 46 1 = some 5 ∧ offT Tryz.prog 46 2 = some 6 ∧ placeT Tryz.prog 46 = some (fun i => (#[(0, 5), (5, 1), (6, 5)] : Array (Nat × Nat))[i]?) := by and_intros <;> kernel_rfl
theorem t47 : okT Tryz.prog 47 = true ∧ szT Tryz.prog 47 = 11 ∧ aggT Tryz.prog 47 = true ∧ zeroT Tryz.prog 47 = some (.agg #[.string ⟨#[]⟩, .string ⟨#[]⟩, .int Go.IntKind.i64 (0), .int Go.IntKind.i64 (0), .string ⟨#[]⟩, .int Go.IntKind.i64 (0), .string ⟨#[]⟩, .string ⟨#[]⟩, .int Go.IntKind.i64 (0), .int Go.IntKind.i64 (0), .string ⟨#[]⟩]) ∧ Program.bytesOf Tryz.prog 47 = 136 ∧ slT Tryz.prog 47 = false ∧ strT Tryz.prog 47 = false ∧ offT Tryz.prog 47 0 = some 0 ∧ offT Tryz.prog 47 1 = some 5 ∧ offT Tryz.prog 47 2 = some 6 ∧ placeT Tryz.prog 47 = some (fun i => (#[(0, 5), (5, 1), (6, 5)] : Array (Nat × Nat))[i]?) := by and_intros <;> kernel_rfl
theorem t48 : okT Tryz.prog 48 = true ∧ szT Tryz.prog 48 = 1 ∧ aggT Tryz.prog 48 = false ∧ zeroT Tryz.prog 48 = some (.slice none 0 0) ∧ Program.bytesOf Tryz.prog 48 = 24 ∧ slT Tryz.prog 48 = true ∧ Program.elem Tryz.prog 48 = 3 ∧ strT Tryz.prog 48 = false := by and_intros <;> kernel_rfl
theorem t51 : okT Tryz.prog 51 = true ∧ szT Tryz.prog 51 = 1 ∧ aggT Tryz.prog 51 = false ∧ zeroT Tryz.prog 51 = some (.slice none 0 0) ∧ Program.bytesOf Tryz.prog 51 = 24 ∧ slT Tryz.prog 51 = true ∧ Program.elem Tryz.prog 51 = 53 ∧ strT Tryz.prog 51 = false := by and_intros <;> kernel_rfl
theorem t52 : okT Tryz.prog 52 = true ∧ szT Tryz.prog 52 = 2 ∧ aggT Tryz.prog 52 = true ∧ zeroT Tryz.prog 52 = some (.agg #[.int Go.IntKind.i64 (0), .int Go.IntKind.i64 (0)]) ∧ Program.bytesOf Tryz.prog 52 = 16 ∧ slT Tryz.prog 52 = false ∧ strT Tryz.prog 52 = false ∧ offT Tryz.prog 52 0 = some 0 ∧ offT Tryz.prog 52 1 = some 1 ∧ placeT Tryz.prog 52 = some (fun i => (#[(0, 1), (1, 1)] : Array (Nat × Nat))[i]?) := by and_intros <;> kernel_rfl
theorem t53 : okT Tryz.prog 53 = true ∧ szT Tryz.prog 53 = 2 ∧ aggT Tryz.prog 53 = true ∧ zeroT Tryz.prog 53 = some (.agg #[.int Go.IntKind.i64 (0), .int Go.IntKind.i64 (0)]) ∧ Program.bytesOf Tryz.prog 53 = 16 ∧ slT Tryz.prog 53 = false ∧ strT Tryz.prog 53 = false ∧ offT Tryz.prog 53 0 = some 0 ∧ offT Tryz.prog 53 1 = some 1 ∧ placeT Tryz.prog 53 = some (fun i => (#[(0, 1), (1, 1)] : Array (Nat × Nat))[i]?) := by and_intros <;> kernel_rfl
theorem t63 : okT Tryz.prog 63 = true ∧ szT Tryz.prog 63 = 1 ∧ aggT Tryz.prog 63 = false ∧ zeroT Tryz.prog 63 = some (.slice none 0 0) ∧ Program.bytesOf Tryz.prog 63 = 24 ∧ slT Tryz.prog 63 = true ∧ Program.elem Tryz.prog 63 = 103 ∧ strT Tryz.prog 63 = false := by and_intros <;> kernel_rfl
theorem t64 : okT Tryz.prog 64 = true ∧ szT Tryz.prog 64 = 1 ∧ aggT Tryz.prog 64 = false ∧ zeroT Tryz.prog 64 = some (.slice none 0 0) ∧ Program.bytesOf Tryz.prog 64 = 24 ∧ slT Tryz.prog 64 = true ∧ Program.elem Tryz.prog 64 = 112 ∧ strT Tryz.prog 64 = false := by and_intros <;> kernel_rfl
theorem t73 : okT Tryz.prog 73 = true ∧ szT Tryz.prog 73 = 1 ∧ aggT Tryz.prog 73 = false ∧ zeroT Tryz.prog 73 = some (.pointer none) ∧ Program.bytesOf Tryz.prog 73 = 8 ∧ slT Tryz.prog 73 = false ∧ strT Tryz.prog 73 = false ∧ Program.underlying Tryz.prog 73 = some (.pointer 76) := by and_intros <;> kernel_rfl
theorem t74 : okT Tryz.prog 74 = true ∧ szT Tryz.prog 74 = 1 ∧ aggT Tryz.prog 74 = false ∧ zeroT Tryz.prog 74 = some (.map none) ∧ Program.bytesOf Tryz.prog 74 = 8 ∧ slT Tryz.prog 74 = false ∧ strT Tryz.prog 74 = false := by and_intros <;> kernel_rfl
theorem t75 : okT Tryz.prog 75 = true ∧ szT Tryz.prog 75 = 3 ∧ aggT Tryz.prog 75 = true ∧ zeroT Tryz.prog 75 = some (.agg #[.slice none 0 0, .slice none 0 0, .map none]) ∧ Program.bytesOf Tryz.prog 75 = 56 ∧ slT Tryz.prog 75 = false ∧ strT Tryz.prog 75 = false ∧ offT Tryz.prog 75 0 = some 0 ∧ offT Tryz.prog 75 1 = some 2 ∧ placeT Tryz.prog 75 = some (fun i => (#[(0, 2), (2, 1)] : Array (Nat × Nat))[i]?) := by and_intros <;> kernel_rfl
theorem t76 : okT Tryz.prog 76 = true ∧ szT Tryz.prog 76 = 3 ∧ aggT Tryz.prog 76 = true ∧ zeroT Tryz.prog 76 = some (.agg #[.slice none 0 0, .slice none 0 0, .map none]) ∧ Program.bytesOf Tryz.prog 76 = 56 ∧ slT Tryz.prog 76 = false ∧ strT Tryz.prog 76 = false ∧ offT Tryz.prog 76 0 = some 0 ∧ offT Tryz.prog 76 1 = some 2 ∧ placeT Tryz.prog 76 = some (fun i => (#[(0, 2), (2, 1)] : Array (Nat × Nat))[i]?) := by and_intros <;> kernel_rfl
theorem t77 : okT Tryz.prog 77 = true ∧ szT Tryz.prog 77 = 5 ∧ aggT Tryz.prog 77 = true ∧ zeroT Tryz.prog 77 = some (.agg #[.int Go.IntKind.i64 (0), .int Go.IntKind.i64 (0), .int Go.IntKind.i64 (0), .int Go.IntKind.i64 (0), .int Go.IntKind.i64 (0)]) ∧ Program.bytesOf Tryz.prog 77 = 40 ∧ slT Tryz.prog 77 = false ∧ strT Tryz.prog 77 = false ∧ Program.underlying Tryz.prog 77 = some (.array 5 3) ∧ placeT Tryz.prog 77 = some (fun i => some (i * 1, 1)) := by and_intros <;> kernel_rfl
theorem t81 : okT Tryz.prog 81 = true ∧ szT Tryz.prog 81 = 1 ∧ aggT Tryz.prog 81 = false ∧ zeroT Tryz.prog 81 = some (.slice none 0 0) ∧ Program.bytesOf Tryz.prog 81 = 24 ∧ slT Tryz.prog 81 = true ∧ Program.elem Tryz.prog 81 = 9 ∧ strT Tryz.prog 81 = false := by and_intros <;> kernel_rfl
theorem t84 : okT Tryz.prog 84 = true ∧ szT Tryz.prog 84 = 1 ∧ aggT Tryz.prog 84 = false ∧ zeroT Tryz.prog 84 = some (.pointer none) ∧ Program.bytesOf Tryz.prog 84 = 8 ∧ slT Tryz.prog 84 = false ∧ strT Tryz.prog 84 = false ∧ Program.underlying Tryz.prog 84 = some (.pointer 33) := by and_intros <;> kernel_rfl
theorem t98 : okT Tryz.prog 98 = true ∧ szT Tryz.prog 98 = 1 ∧ aggT Tryz.prog 98 = false ∧ zeroT Tryz.prog 98 = some (.map none) ∧ Program.bytesOf Tryz.prog 98 = 8 ∧ slT Tryz.prog 98 = false ∧ strT Tryz.prog 98 = false := by and_intros <;> kernel_rfl
theorem t99 : okT Tryz.prog 99 = true ∧ szT Tryz.prog 99 = 2 ∧ aggT Tryz.prog 99 = true ∧ zeroT Tryz.prog 99 = some (.agg #[.int Go.IntKind.i64 (0), .int Go.IntKind.i64 (0)]) ∧ Program.bytesOf Tryz.prog 99 = 16 ∧ slT Tryz.prog 99 = false ∧ strT Tryz.prog 99 = false ∧ offT Tryz.prog 99 0 = some 0 ∧ offT Tryz.prog 99 1 = some 1 ∧ placeT Tryz.prog 99 = some (fun i => (#[(0, 1), (1, 1)] : Array (Nat × Nat))[i]?) := by and_intros <;> kernel_rfl
theorem t100 : okT Tryz.prog 100 = true ∧ szT Tryz.prog 100 = 2 ∧ aggT Tryz.prog 100 = true ∧ zeroT Tryz.prog 100 = some (.agg #[.int Go.IntKind.i64 (0), .int Go.IntKind.i64 (0)]) ∧ Program.bytesOf Tryz.prog 100 = 16 ∧ slT Tryz.prog 100 = false ∧ strT Tryz.prog 100 = false ∧ offT Tryz.prog 100 0 = some 0 ∧ offT Tryz.prog 100 1 = some 1 ∧ placeT Tryz.prog 100 = some (fun i => (#[(0, 1), (1, 1)] : Array (Nat × Nat))[i]?) := by and_intros <;> kernel_rfl
theorem t101 : okT Tryz.prog 101 = true ∧ szT Tryz.prog 101 = 1 ∧ aggT Tryz.prog 101 = false ∧ zeroT Tryz.prog 101 = some (.slice none 0 0) ∧ Program.bytesOf Tryz.prog 101 = 24 ∧ slT Tryz.prog 101 = true ∧ Program.elem Tryz.prog 101 = 176 ∧ strT Tryz.prog 101 = false := by and_intros <;> kernel_rfl
theorem t102 : okT Tryz.prog 102 = true ∧ szT Tryz.prog 102 = 5 ∧ aggT Tryz.prog 102 = true ∧ zeroT Tryz.prog 102 = some (.agg #[.int Go.IntKind.i64 (0), .int Go.IntKind.i64 (0), .int Go.IntKind.i64 (0), .string ⟨#[]⟩, .slice none 0 0]) ∧ Program.bytesOf Tryz.prog 102 = 64 ∧ slT Tryz.prog 102 = false ∧ strT Tryz.prog 102 = false ∧ offT Tryz.prog 102 0 = some 0 ∧ offT Tryz.prog 102 1 = some 2 ∧ offT Tryz.prog 102 2 = some 3 ∧ offT Tryz.prog 102 3 = some 4 ∧ placeT Tryz.prog 102 = some (fun i => (#[(0, 2), (2, 1), (3, 1), (4, 1)] : Array (Nat × Nat))[i]?) := by and_intros <;> kernel_rfl
theorem t103 : okT Tryz.prog 103 = true ∧ szT Tryz.prog 103 = 5 ∧ aggT Tryz.prog 103 = true ∧ zeroT Tryz.prog 103 = some (.agg #[.int Go.IntKind.i64 (0), .int Go.IntKind.i64 (0), .int Go.IntKind.i64 (0), .string ⟨#[]⟩, .slice none 0 0]) ∧ Program.bytesOf Tryz.prog 103 = 64 ∧ slT Tryz.prog 103 = false ∧ strT Tryz.prog 103 = false ∧ offT Tryz.prog 103 0 = some 0 ∧ offT Tryz.prog 103 1 = some 2 ∧ offT Tryz.prog 103 2 = some 3 ∧ offT Tryz.prog 103 3 = some 4 ∧ placeT Tryz.prog 103 = some (fun i => (#[(0, 2), (2, 1), (3, 1), (4, 1)] : Array (Nat × Nat))[i]?) := by and_intros <;> kernel_rfl
theorem t105 : okT Tryz.prog 105 = true ∧ szT Tryz.prog 105 = 1 ∧ aggT Tryz.prog 105 = false ∧ zeroT Tryz.prog 105 = some (.slice none 0 0) ∧ Program.bytesOf Tryz.prog 105 = 24 ∧ slT Tryz.prog 105 = true ∧ Program.elem Tryz.prog 105 = 64 ∧ strT Tryz.prog 105 = false := by and_intros <;> kernel_rfl
theorem t110 : okT Tryz.prog 110 = true ∧ szT Tryz.prog 110 = 1 ∧ aggT Tryz.prog 110 = false ∧ zeroT Tryz.prog 110 = some (.slice none 0 0) ∧ Program.bytesOf Tryz.prog 110 = 24 ∧ slT Tryz.prog 110 = true ∧ Program.elem Tryz.prog 110 = 156 ∧ strT Tryz.prog 110 = false := by and_intros <;> kernel_rfl
theorem t111 : okT Tryz.prog 111 = true ∧ szT Tryz.prog 111 = 1 ∧ aggT Tryz.prog 111 = true ∧ zeroT Tryz.prog 111 = some (.agg #[.slice none 0 0]) ∧ Program.bytesOf Tryz.prog 111 = 24 ∧ slT Tryz.prog 111 = false ∧ strT Tryz.prog 111 = false ∧ offT Tryz.prog 111 0 = some 0 ∧ placeT Tryz.prog 111 = some (fun i => (#[(0, 1)] : Array (Nat × Nat))[i]?) := by and_intros <;> kernel_rfl
theorem t112 : okT Tryz.prog 112 = true ∧ szT Tryz.prog 112 = 1 ∧ aggT Tryz.prog 112 = true ∧ zeroT Tryz.prog 112 = some (.agg #[.slice none 0 0]) ∧ Program.bytesOf Tryz.prog 112 = 24 ∧ slT Tryz.prog 112 = false ∧ strT Tryz.prog 112 = false ∧ offT Tryz.prog 112 0 = some 0 ∧ placeT Tryz.prog 112 = some (fun i => (#[(0, 1)] : Array (Nat × Nat))[i]?) := by and_intros <;> kernel_rfl
theorem t118 : okT Tryz.prog 118 = true ∧ szT Tryz.prog 118 = 1 ∧ aggT Tryz.prog 118 = false ∧ zeroT Tryz.prog 118 = some (.slice none 0 0) ∧ Program.bytesOf Tryz.prog 118 = 24 ∧ slT Tryz.prog 118 = true ∧ Program.elem Tryz.prog 118 = 117 ∧ strT Tryz.prog 118 = false := by and_intros <;> kernel_rfl
theorem t123 : okT Tryz.prog 123 = true ∧ szT Tryz.prog 123 = 1 ∧ aggT Tryz.prog 123 = false ∧ zeroT Tryz.prog 123 = some (.map none) ∧ Program.bytesOf Tryz.prog 123 = 8 ∧ slT Tryz.prog 123 = false ∧ strT Tryz.prog 123 = false := by and_intros <;> kernel_rfl
theorem t124 : okT Tryz.prog 124 = true ∧ szT Tryz.prog 124 = 1 ∧ aggT Tryz.prog 124 = false ∧ zeroT Tryz.prog 124 = some (.map none) ∧ Program.bytesOf Tryz.prog 124 = 8 ∧ slT Tryz.prog 124 = false ∧ strT Tryz.prog 124 = false := by and_intros <;> kernel_rfl
theorem t133 : okT Tryz.prog 133 = true ∧ szT Tryz.prog 133 = 1 ∧ aggT Tryz.prog 133 = false ∧ zeroT Tryz.prog 133 = some (.slice none 0 0) ∧ Program.bytesOf Tryz.prog 133 = 24 ∧ slT Tryz.prog 133 = true ∧ Program.elem Tryz.prog 133 = 22 ∧ strT Tryz.prog 133 = false := by and_intros <;> kernel_rfl
theorem t150 : okT Tryz.prog 150 = true ∧ szT Tryz.prog 150 = 1 ∧ aggT Tryz.prog 150 = false ∧ zeroT Tryz.prog 150 = some (.pointer none) ∧ Program.bytesOf Tryz.prog 150 = 8 ∧ slT Tryz.prog 150 = false ∧ strT Tryz.prog 150 = false ∧ Program.underlying Tryz.prog 150 = some (.pointer 152) := by and_intros <;> kernel_rfl
theorem t151 : okT Tryz.prog 151 = true ∧ szT Tryz.prog 151 = 2 ∧ aggT Tryz.prog 151 = true ∧ zeroT Tryz.prog 151 = some (.agg #[.slice none 0 0, .bool false]) ∧ Program.bytesOf Tryz.prog 151 = 32 ∧ slT Tryz.prog 151 = false ∧ strT Tryz.prog 151 = false ∧ offT Tryz.prog 151 0 = some 0 ∧ offT Tryz.prog 151 1 = some 1 ∧ placeT Tryz.prog 151 = some (fun i => (#[(0, 1), (1, 1)] : Array (Nat × Nat))[i]?) := by and_intros <;> kernel_rfl
theorem t152 : okT Tryz.prog 152 = true ∧ szT Tryz.prog 152 = 2 ∧ aggT Tryz.prog 152 = true ∧ zeroT Tryz.prog 152 = some (.agg #[.slice none 0 0, .bool false]) ∧ Program.bytesOf Tryz.prog 152 = 32 ∧ slT Tryz.prog 152 = false ∧ strT Tryz.prog 152 = false ∧ offT Tryz.prog 152 0 = some 0 ∧ offT Tryz.prog 152 1 = some 1 ∧ placeT Tryz.prog 152 = some (fun i => (#[(0, 1), (1, 1)] : Array (Nat × Nat))[i]?) := by and_intros <;> kernel_rfl
theorem t155 : okT Tryz.prog 155 = true ∧ szT Tryz.prog 155 = 6 ∧ aggT Tryz.prog 155 = true ∧ zeroT Tryz.prog 155 = some (.agg #[.string ⟨#[]⟩, .int Go.IntKind.i64 (0), .int Go.IntKind.i64 (0), .int Go.IntKind.i64 (0), .string ⟨#[]⟩, .slice none 0 0]) ∧ Program.bytesOf Tryz.prog 155 = 80 ∧ slT Tryz.prog 155 = false ∧ strT Tryz.prog 155 = false ∧ offT Tryz.prog 155 0 = some 0 ∧ offT Tryz.prog 155 1 = some 1 ∧ placeT Tryz.prog 155 = some (fun i => (#[(0, 1), (1, 5)] : Array (Nat × Nat))[i]?) := by and_intros <;> kernel_rfl
theorem t156 : okT Tryz.prog 156 = true ∧ szT Tryz.prog 156 = 6 ∧ aggT Tryz.prog 156 = true ∧ zeroT Tryz.prog 156 = some (.agg #[.string ⟨#[]⟩, .int Go.IntKind.i64 (0), .int Go.IntKind.i64 (0), .int Go.IntKind.i64 (0), .string ⟨#[]⟩, .slice none 0 0]) ∧ Program.bytesOf Tryz.prog 156 = 80 ∧ slT Tryz.prog 156 = false ∧ strT Tryz.prog 156 = false ∧ offT Tryz.prog 156 0 = some 0 ∧ offT Tryz.prog 156 1 = some 1 ∧ placeT Tryz.prog 156 = some (fun i => (#[(0, 1), (1, 5)] : Array (Nat × Nat))[i]?) := by and_intros <;> kernel_rfl
theorem t158 : okT Tryz.prog 158 = true ∧ szT Tryz.prog 158 = 1 ∧ aggT Tryz.prog 158 = false ∧ zeroT Tryz.prog 158 = some (.slice none 0 0) ∧ Program.bytesOf Tryz.prog 158 = 24 ∧ slT Tryz.prog 158 = true ∧ Program.elem Tryz.prog 158 = 5 ∧ strT Tryz.prog 158 = false := by and_intros <;> kernel_rfl
theorem t168 : okT Tryz.prog 168 = true ∧ szT Tryz.prog 168 = 1 ∧ aggT Tryz.prog 168 = false ∧ zeroT Tryz.prog 168 = some (.slice none 0 0) ∧ Program.bytesOf Tryz.prog 168 = 24 ∧ slT Tryz.prog 168 = true ∧ Program.elem Tryz.prog 168 = 45 ∧ strT Tryz.prog 168 = false := by and_intros <;> kernel_rfl
theorem t175 : okT Tryz.prog 175 = true ∧ szT Tryz.prog 175 = 4 ∧ aggT Tryz.prog 175 = true ∧ zeroT Tryz.prog 175 = some (.agg #[.string ⟨#[]⟩, .int Go.IntKind.i64 (0), .int Go.IntKind.i64 (0), .string ⟨#[]⟩]) ∧ Program.bytesOf Tryz.prog 175 = 48 ∧ slT Tryz.prog 175 = false ∧ strT Tryz.prog 175 = false ∧ offT Tryz.prog 175 0 = some 0 ∧ offT Tryz.prog 175 1 = some 1 ∧ placeT Tryz.prog 175 = some (fun i => (#[(0, 1), (1, 3)] : Array (Nat × Nat))[i]?) := by and_intros <;> kernel_rfl
theorem t176 : okT Tryz.prog 176 = true ∧ szT Tryz.prog 176 = 4 ∧ aggT Tryz.prog 176 = true ∧ zeroT Tryz.prog 176 = some (.agg #[.string ⟨#[]⟩, .int Go.IntKind.i64 (0), .int Go.IntKind.i64 (0), .string ⟨#[]⟩]) ∧ Program.bytesOf Tryz.prog 176 = 48 ∧ slT Tryz.prog 176 = false ∧ strT Tryz.prog 176 = false ∧ offT Tryz.prog 176 0 = some 0 ∧ offT Tryz.prog 176 1 = some 1 ∧ placeT Tryz.prog 176 = some (fun i => (#[(0, 1), (1, 3)] : Array (Nat × Nat))[i]?) := by and_intros <;> kernel_rfl
theorem t183 : okT Tryz.prog 183 = true ∧ szT Tryz.prog 183 = 1 ∧ aggT Tryz.prog 183 = false ∧ zeroT Tryz.prog 183 = some (.slice none 0 0) ∧ Program.bytesOf Tryz.prog 183 = 24 ∧ slT Tryz.prog 183 = true ∧ Program.elem Tryz.prog 183 = 2 ∧ strT Tryz.prog 183 = false := by and_intros <;> kernel_rfl
theorem t205 : okT Tryz.prog 205 = true ∧ szT Tryz.prog 205 = 1 ∧ aggT Tryz.prog 205 = false ∧ zeroT Tryz.prog 205 = some (.slice none 0 0) ∧ Program.bytesOf Tryz.prog 205 = 24 ∧ slT Tryz.prog 205 = true ∧ Program.elem Tryz.prog 205 = 110 ∧ strT Tryz.prog 205 = false := by and_intros <;> kernel_rfl
theorem t210 : okT Tryz.prog 210 = true ∧ szT Tryz.prog 210 = 1 ∧ aggT Tryz.prog 210 = false ∧ zeroT Tryz.prog 210 = some (.int Go.IntKind.u64 (0)) ∧ Program.bytesOf Tryz.prog 210 = 8 ∧ slT Tryz.prog 210 = false ∧ strT Tryz.prog 210 = false := by and_intros <;> kernel_rfl
theorem t218 : okT Tryz.prog 218 = true ∧ szT Tryz.prog 218 = 24 ∧ aggT Tryz.prog 218 = true ∧ zeroT Tryz.prog 218 = some (.agg #[.int Go.IntKind.u8 (0), .int Go.IntKind.u8 (0), .int Go.IntKind.u8 (0), .int Go.IntKind.u8 (0), .int Go.IntKind.u8 (0), .int Go.IntKind.u8 (0), .int Go.IntKind.u8 (0), .int Go.IntKind.u8 (0), .int Go.IntKind.u8 (0), .int Go.IntKind.u8 (0), .int Go.IntKind.u8 (0), .int Go.IntKind.u8 (0), .int Go.IntKind.u8 (0), .int Go.IntKind.u8 (0), .int Go.IntKind.u8 (0), .int Go.IntKind.u8 (0), .int Go.IntKind.u8 (0), .int Go.IntKind.u8 (0), .int Go.IntKind.u8 (0), .int Go.IntKind.u8 (0), .int Go.IntKind.u8 (0), .int Go.IntKind.u8 (0), .int Go.IntKind.u8 (0), .int Go.IntKind.u8 (0)]) ∧ Program.bytesOf Tryz.prog 218 = 24 ∧ slT Tryz.prog 218 = false ∧ strT Tryz.prog 218 = false ∧ Program.underlying Tryz.prog 218 = some (.array 24 5) ∧ placeT Tryz.prog 218 = some (fun i => some (i * 1, 1)) := by and_intros <;> kernel_rfl
theorem t219 : okT Tryz.prog 219 = true ∧ szT Tryz.prog 219 = 1 ∧ aggT Tryz.prog 219 = false ∧ zeroT Tryz.prog 219 = some (.int Go.IntKind.u64 (0)) ∧ Program.bytesOf Tryz.prog 219 = 8 ∧ slT Tryz.prog 219 = false ∧ strT Tryz.prog 219 = false := by and_intros <;> kernel_rfl
theorem t231 : okT Tryz.prog 231 = true ∧ szT Tryz.prog 231 = 1 ∧ aggT Tryz.prog 231 = false ∧ zeroT Tryz.prog 231 = some (.int Go.IntKind.i64 (0)) ∧ Program.bytesOf Tryz.prog 231 = 8 ∧ slT Tryz.prog 231 = false ∧ strT Tryz.prog 231 = false := by and_intros <;> kernel_rfl
theorem t238 : okT Tryz.prog 238 = true ∧ szT Tryz.prog 238 = 1 ∧ aggT Tryz.prog 238 = false ∧ zeroT Tryz.prog 238 = some (.int Go.IntKind.u32 (0)) ∧ Program.bytesOf Tryz.prog 238 = 4 ∧ slT Tryz.prog 238 = false ∧ strT Tryz.prog 238 = false := by and_intros <;> kernel_rfl
theorem t250 : okT Tryz.prog 250 = true ∧ szT Tryz.prog 250 = 20 ∧ aggT Tryz.prog 250 = true ∧ zeroT Tryz.prog 250 = some (.agg #[.int Go.IntKind.u64 (0), .int Go.IntKind.u64 (0), .int Go.IntKind.u64 (0), .int Go.IntKind.u64 (0), .int Go.IntKind.u64 (0), .int Go.IntKind.u64 (0), .int Go.IntKind.u64 (0), .int Go.IntKind.u64 (0), .int Go.IntKind.u64 (0), .int Go.IntKind.u64 (0), .int Go.IntKind.u64 (0), .int Go.IntKind.u64 (0), .int Go.IntKind.u64 (0), .int Go.IntKind.u64 (0), .int Go.IntKind.u64 (0), .int Go.IntKind.u64 (0), .int Go.IntKind.u64 (0), .int Go.IntKind.u64 (0), .int Go.IntKind.u64 (0), .int Go.IntKind.u64 (0)]) ∧ Program.bytesOf Tryz.prog 250 = 160 ∧ slT Tryz.prog 250 = false ∧ strT Tryz.prog 250 = false ∧ Program.underlying Tryz.prog 250 = some (.array 20 219) ∧ placeT Tryz.prog 250 = some (fun i => some (i * 1, 1)) := by and_intros <;> kernel_rfl
theorem t251 : okT Tryz.prog 251 = true ∧ szT Tryz.prog 251 = 65 ∧ aggT Tryz.prog 251 = true ∧ zeroT Tryz.prog 251 = some (.agg #[.int Go.IntKind.u8 (0), .int Go.IntKind.u8 (0), .int Go.IntKind.u8 (0), .int Go.IntKind.u8 (0), .int Go.IntKind.u8 (0), .int Go.IntKind.u8 (0), .int Go.IntKind.u8 (0), .int Go.IntKind.u8 (0), .int Go.IntKind.u8 (0), .int Go.IntKind.u8 (0), .int Go.IntKind.u8 (0), .int Go.IntKind.u8 (0), .int Go.IntKind.u8 (0), .int Go.IntKind.u8 (0), .int Go.IntKind.u8 (0), .int Go.IntKind.u8 (0), .int Go.IntKind.u8 (0), .int Go.IntKind.u8 (0), .int Go.IntKind.u8 (0), .int Go.IntKind.u8 (0), .int Go.IntKind.u8 (0), .int Go.IntKind.u8 (0), .int Go.IntKind.u8 (0), .int Go.IntKind.u8 (0), .int Go.IntKind.u8 (0), .int Go.IntKind.u8 (0), .int Go.IntKind.u8 (0), .int Go.IntKind.u8 (0), .int Go.IntKind.u8 (0), .int Go.IntKind.u8 (0), .int Go.IntKind.u8 (0), .int Go.IntKind.u8 (0), .int Go.IntKind.u8 (0), .int Go.IntKind.u8 (0), .int Go.IntKind.u8 (0), .int Go.IntKind.u8 (0), .int Go.IntKind.u8 (0), .int Go.IntKind.u8 (0), .int Go.IntKind.u8 (0), .int Go.IntKind.u8 (0), .int Go.IntKind.u8 (0), .int Go.IntKind.u8 (0), .int Go.IntKind.u8 (0), .int Go.IntKind.u8 (0), .int Go.IntKind.u8 (0), .int Go.IntKind.u8 (0), .int Go.IntKind.u8 (0), .int Go.IntKind.u8 (0), .int Go.IntKind.u8 (0), .int Go.IntKind.u8 (0), .int Go.IntKind.u8 (0), .int Go.IntKind.u8 (0), .int Go.IntKind.u8 (0), .int Go.IntKind.u8 (0), .int Go.IntKind.u8 (0), .int Go.IntKind.u8 (0), .int Go.IntKind.u8 (0), .int Go.IntKind.u8 (0), .int Go.IntKind.u8 (0), .int Go.IntKind.u8 (0), .int Go.IntKind.u8 (0), .int Go.IntKind.u8 (0), .int Go.IntKind.u8 (0), .int Go.IntKind.u8 (0), .int Go.IntKind.u8 (0)]) ∧ Program.bytesOf Tryz.prog 251 = 65 ∧ slT Tryz.prog 251 = false ∧ strT Tryz.prog 251 = false ∧ Program.underlying Tryz.prog 251 = some (.array 65 5) ∧ placeT Tryz.prog 251 = some (fun i => some (i * 1, 1)) := by and_intros <;> kernel_rfl
theorem t252 : okT Tryz.prog 252 = true ∧ szT Tryz.prog 252 = 1 ∧ aggT Tryz.prog 252 = false ∧ zeroT Tryz.prog 252 = some (.int Go.IntKind.u64 (0)) ∧ Program.bytesOf Tryz.prog 252 = 8 ∧ slT Tryz.prog 252 = false ∧ strT Tryz.prog 252 = false := by and_intros <;> kernel_rfl
theorem t256 : okT Tryz.prog 256 = true ∧ szT Tryz.prog 256 = 1 ∧ aggT Tryz.prog 256 = false ∧ zeroT Tryz.prog 256 = some (.pointer none) ∧ Program.bytesOf Tryz.prog 256 = 8 ∧ slT Tryz.prog 256 = false ∧ strT Tryz.prog 256 = false ∧ Program.underlying Tryz.prog 256 = some (.pointer 3) := by and_intros <;> kernel_rfl
theorem t260 : okT Tryz.prog 260 = true ∧ szT Tryz.prog 260 = 1 ∧ aggT Tryz.prog 260 = false ∧ zeroT Tryz.prog 260 = some (.pointer none) ∧ Program.bytesOf Tryz.prog 260 = 8 ∧ slT Tryz.prog 260 = false ∧ strT Tryz.prog 260 = false ∧ Program.underlying Tryz.prog 260 = some (.pointer 252) := by and_intros <;> kernel_rfl
theorem t264 : okT Tryz.prog 264 = true ∧ szT Tryz.prog 264 = 32 ∧ aggT Tryz.prog 264 = true ∧ zeroT Tryz.prog 264 = some (.agg #[.int Go.IntKind.u8 (0), .int Go.IntKind.u8 (0), .int Go.IntKind.u8 (0), .int Go.IntKind.u8 (0), .int Go.IntKind.u8 (0), .int Go.IntKind.u8 (0), .int Go.IntKind.u8 (0), .int Go.IntKind.u8 (0), .int Go.IntKind.u8 (0), .int Go.IntKind.u8 (0), .int Go.IntKind.u8 (0), .int Go.IntKind.u8 (0), .int Go.IntKind.u8 (0), .int Go.IntKind.u8 (0), .int Go.IntKind.u8 (0), .int Go.IntKind.u8 (0), .int Go.IntKind.u8 (0), .int Go.IntKind.u8 (0), .int Go.IntKind.u8 (0), .int Go.IntKind.u8 (0), .int Go.IntKind.u8 (0), .int Go.IntKind.u8 (0), .int Go.IntKind.u8 (0), .int Go.IntKind.u8 (0), .int Go.IntKind.u8 (0), .int Go.IntKind.u8 (0), .int Go.IntKind.u8 (0), .int Go.IntKind.u8 (0), .int Go.IntKind.u8 (0), .int Go.IntKind.u8 (0), .int Go.IntKind.u8 (0), .int Go.IntKind.u8 (0)]) ∧ Program.bytesOf Tryz.prog 264 = 32 ∧ slT Tryz.prog 264 = false ∧ strT Tryz.prog 264 = false ∧ Program.underlying Tryz.prog 264 = some (.array 32 5) ∧ placeT Tryz.prog 264 = some (fun i => some (i * 1, 1)) := by and_intros <;> kernel_rfl
theorem t265 : okT Tryz.prog 265 = true ∧ szT Tryz.prog 265 = 64 ∧ aggT Tryz.prog 265 = true ∧ zeroT Tryz.prog 265 = some (.agg #[.int Go.IntKind.u8 (0), .int Go.IntKind.u8 (0), .int Go.IntKind.u8 (0), .int Go.IntKind.u8 (0), .int Go.IntKind.u8 (0), .int Go.IntKind.u8 (0), .int Go.IntKind.u8 (0), .int Go.IntKind.u8 (0), .int Go.IntKind.u8 (0), .int Go.IntKind.u8 (0), .int Go.IntKind.u8 (0), .int Go.IntKind.u8 (0), .int Go.IntKind.u8 (0), .int Go.IntKind.u8 (0), .int Go.IntKind.u8 (0), .int Go.IntKind.u8 (0), .int Go.IntKind.u8 (0), .int Go.IntKind.u8 (0), .int Go.IntKind.u8 (0), .int Go.IntKind.u8 (0), .int Go.IntKind.u8 (0), .int Go.IntKind.u8 (0), .int Go.IntKind.u8 (0), .int Go.IntKind.u8 (0), .int Go.IntKind.u8 (0), .int Go.IntKind.u8 (0), .int Go.IntKind.u8 (0), .int Go.IntKind.u8 (0), .int Go.IntKind.u8 (0), .int Go.IntKind.u8 (0), .int Go.IntKind.u8 (0), .int Go.IntKind.u8 (0), .int Go.IntKind.u8 (0), .int Go.IntKind.u8 (0), .int Go.IntKind.u8 (0), .int Go.IntKind.u8 (0), .int Go.IntKind.u8 (0), .int Go.IntKind.u8 (0), .int Go.IntKind.u8 (0), .int Go.IntKind.u8 (0), .int Go.IntKind.u8 (0), .int Go.IntKind.u8 (0), .int Go.IntKind.u8 (0), .int Go.IntKind.u8 (0), .int Go.IntKind.u8 (0), .int Go.IntKind.u8 (0), .int Go.IntKind.u8 (0), .int Go.IntKind.u8 (0), .int Go.IntKind.u8 (0), .int Go.IntKind.u8 (0), .int Go.IntKind.u8 (0), .int Go.IntKind.u8 (0), .int Go.IntKind.u8 (0), .int Go.IntKind.u8 (0), .int Go.IntKind.u8 (0), .int Go.IntKind.u8 (0), .int Go.IntKind.u8 (0), .int Go.IntKind.u8 (0), .int Go.IntKind.u8 (0), .int Go.IntKind.u8 (0), .int Go.IntKind.u8 (0), .int Go.IntKind.u8 (0), .int Go.IntKind.u8 (0), .int Go.IntKind.u8 (0)]) ∧ Program.bytesOf Tryz.prog 265 = 64 ∧ slT Tryz.prog 265 = false ∧ strT Tryz.prog 265 = false ∧ Program.underlying Tryz.prog 265 = some (.array 64 5) ∧ placeT Tryz.prog 265 = some (fun i => some (i * 1, 1)) := by and_intros <;> kernel_rfl
theorem t267 : okT Tryz.prog 267 = true ∧ szT Tryz.prog 267 = 4 ∧ aggT Tryz.prog 267 = true ∧ zeroT Tryz.prog 267 = some (.agg #[.pointer none, .pointer none, .pointer none, .string ⟨#[]⟩]) ∧ Program.bytesOf Tryz.prog 267 = 40 ∧ slT Tryz.prog 267 = false ∧ strT Tryz.prog 267 = false ∧ offT Tryz.prog 267 0 = some 0 ∧ offT Tryz.prog 267 1 = some 1 ∧ offT Tryz.prog 267 2 = some 2 ∧ offT Tryz.prog 267 3 = some 3 ∧ placeT Tryz.prog 267 = some (fun i => (#[(0, 1), (1, 1), (2, 1), (3, 1)] : Array (Nat × Nat))[i]?) := by and_intros <;> kernel_rfl
theorem t268 : okT Tryz.prog 268 = true ∧ szT Tryz.prog 268 = 4 ∧ aggT Tryz.prog 268 = true ∧ zeroT Tryz.prog 268 = some (.agg #[.pointer none, .pointer none, .pointer none, .string ⟨#[]⟩]) ∧ Program.bytesOf Tryz.prog 268 = 40 ∧ slT Tryz.prog 268 = false ∧ strT Tryz.prog 268 = false ∧ offT Tryz.prog 268 0 = some 0 ∧ offT Tryz.prog 268 1 = some 1 ∧ offT Tryz.prog 268 2 = some 2 ∧ offT Tryz.prog 268 3 = some 3 ∧ placeT Tryz.prog 268 = some (fun i => (#[(0, 1), (1, 1), (2, 1), (3, 1)] : Array (Nat × Nat))[i]?) := by and_intros <;> kernel_rfl
theorem t269 : okT Tryz.prog 269 = true ∧ szT Tryz.prog 269 = 0 ∧ aggT Tryz.prog 269 = true ∧ zeroT Tryz.prog 269 = some (.agg #[]) ∧ Program.bytesOf Tryz.prog 269 = 0 ∧ slT Tryz.prog 269 = false ∧ strT Tryz.prog 269 = false ∧ Program.underlying Tryz.prog 269 = some (.array 0 16) ∧ placeT Tryz.prog 269 = some (fun i => some (i * 1, 1)) := by and_intros <;> kernel_rfl
theorem t270 : okT Tryz.prog 270 = true ∧ szT Tryz.prog 270 = 0 ∧ aggT Tryz.prog 270 = true ∧ zeroT Tryz.prog 270 = some (.agg #[]) ∧ Program.bytesOf Tryz.prog 270 = 0 ∧ slT Tryz.prog 270 = false ∧ strT Tryz.prog 270 = false ∧ offT Tryz.prog 270 0 = none ∧ placeT Tryz.prog 270 = some (fun i => (#[(0, 0)] : Array (Nat × Nat))[i]?) := by and_intros <;> kernel_rfl
theorem t271 : okT Tryz.prog 271 = true ∧ szT Tryz.prog 271 = 0 ∧ aggT Tryz.prog 271 = true ∧ zeroT Tryz.prog 271 = some (.agg #[]) ∧ Program.bytesOf Tryz.prog 271 = 0 ∧ slT Tryz.prog 271 = false ∧ strT Tryz.prog 271 = false ∧ offT Tryz.prog 271 0 = none ∧ placeT Tryz.prog 271 = some (fun i => (#[(0, 0)] : Array (Nat × Nat))[i]?) := by and_intros <;> kernel_rfl
theorem t273 : okT Tryz.prog 273 = true ∧ szT Tryz.prog 273 = 1 ∧ aggT Tryz.prog 273 = false ∧ zeroT Tryz.prog 273 = some (.int Go.IntKind.u8 (0)) ∧ Program.bytesOf Tryz.prog 273 = 1 ∧ slT Tryz.prog 273 = false ∧ strT Tryz.prog 273 = false := by and_intros <;> kernel_rfl
theorem t274 : okT Tryz.prog 274 = true ∧ szT Tryz.prog 274 = 1 ∧ aggT Tryz.prog 274 = false ∧ zeroT Tryz.prog 274 = some (.int Go.IntKind.u8 (0)) ∧ Program.bytesOf Tryz.prog 274 = 1 ∧ slT Tryz.prog 274 = false ∧ strT Tryz.prog 274 = false := by and_intros <;> kernel_rfl
theorem t276 : okT Tryz.prog 276 = true ∧ szT Tryz.prog 276 = 1 ∧ aggT Tryz.prog 276 = false ∧ zeroT Tryz.prog 276 = some (.pointer none) ∧ Program.bytesOf Tryz.prog 276 = 8 ∧ slT Tryz.prog 276 = false ∧ strT Tryz.prog 276 = false ∧ Program.underlying Tryz.prog 276 = some (.pointer 5) := by and_intros <;> kernel_rfl
theorem t277 : okT Tryz.prog 277 = true ∧ szT Tryz.prog 277 = 1 ∧ aggT Tryz.prog 277 = false ∧ zeroT Tryz.prog 277 = some (.int Go.IntKind.i32 (0)) ∧ Program.bytesOf Tryz.prog 277 = 4 ∧ slT Tryz.prog 277 = false ∧ strT Tryz.prog 277 = false := by and_intros <;> kernel_rfl
theorem t278 : okT Tryz.prog 278 = true ∧ szT Tryz.prog 278 = 1 ∧ aggT Tryz.prog 278 = false ∧ zeroT Tryz.prog 278 = some (.int Go.IntKind.i32 (0)) ∧ Program.bytesOf Tryz.prog 278 = 4 ∧ slT Tryz.prog 278 = false ∧ strT Tryz.prog 278 = false := by and_intros <;> kernel_rfl
theorem t279 : okT Tryz.prog 279 = true ∧ szT Tryz.prog 279 = 11 ∧ aggT Tryz.prog 279 = true ∧ zeroT Tryz.prog 279 = some (.agg #[.int Go.IntKind.u64 (0), .int Go.IntKind.u64 (0), .int Go.IntKind.u32 (0), .int Go.IntKind.u8 (0), .int Go.IntKind.u8 (0), .int Go.IntKind.u8 (0), .int Go.IntKind.u8 (0), .nilFunc, .pointer none, .int Go.IntKind.i32 (0), .int Go.IntKind.i32 (0)]) ∧ Program.bytesOf Tryz.prog 279 = 48 ∧ slT Tryz.prog 279 = false ∧ strT Tryz.prog 279 = false ∧ offT Tryz.prog 279 0 = some 0 ∧ offT Tryz.prog 279 1 = some 1 ∧ offT Tryz.prog 279 2 = some 2 ∧ offT Tryz.prog 279 3 = some 3 ∧ offT Tryz.prog 279 4 = some 4 ∧ offT Tryz.prog 279 5 = some 5 ∧ offT Tryz.prog 279 6 = some 6 ∧ offT Tryz.prog 279 7 = some 7 ∧ offT Tryz.prog 279 8 = some 8 ∧ offT Tryz.prog 279 9 = some 9 ∧ offT Tryz.prog 279 10 = some 10 ∧ placeT Tryz.prog 279 = some (fun i => (#[(0, 1), (1, 1), (2, 1), (3, 1), (4, 1), (5, 1), (6, 1), (7, 1), (8, 1), (9, 1), (10, 1)] : Array (Nat × Nat))[i]?) := by and_intros <;> kernel_rfl
theorem t280 : okT Tryz.prog 280 = true ∧ szT Tryz.prog 280 = 11 ∧ aggT Tryz.prog 280 = true ∧ zeroT Tryz.prog 280 = some (.agg #[.int Go.IntKind.u64 (0), .int Go.IntKind.u64 (0), .int Go.IntKind.u32 (0), .int Go.IntKind.u8 (0), .int Go.IntKind.u8 (0), .int Go.IntKind.u8 (0), .int Go.IntKind.u8 (0), .nilFunc, .pointer none, .int Go.IntKind.i32 (0), .int Go.IntKind.i32 (0)]) ∧ Program.bytesOf Tryz.prog 280 = 48 ∧ slT Tryz.prog 280 = false ∧ strT Tryz.prog 280 = false ∧ offT Tryz.prog 280 0 = some 0 ∧ offT Tryz.prog 280 1 = some 1 ∧ offT Tryz.prog 280 2 = some 2 ∧ offT Tryz.prog 280 3 = some 3 ∧ offT Tryz.prog 280 4 = some 4 ∧ offT Tryz.prog 280 5 = some 5 ∧ offT Tryz.prog 280 6 = some 6 ∧ offT Tryz.prog 280 7 = some 7 ∧ offT Tryz.prog 280 8 = some 8 ∧ offT Tryz.prog 280 9 = some 9 ∧ offT Tryz.prog 280 10 = some 10 ∧ placeT Tryz.prog 280 = some (fun i => (#[(0, 1), (1, 1), (2, 1), (3, 1), (4, 1), (5, 1), (6, 1), (7, 1), (8, 1), (9, 1), (10, 1)] : Array (Nat × Nat))[i]?) := by and_intros <;> kernel_rfl
theorem tc : cnvT Tryz.prog 9 158 = .toBytes 5 ∧ cnvT Tryz.prog 3 210 = .toInt .u64 ∧ cnvT Tryz.prog 2 219 = .toInt .u64 ∧ cnvT Tryz.prog 158 9 = .toStr ∧ cnvT Tryz.prog 210 238 = .toInt .u32 ∧ cnvT Tryz.prog 219 238 = .toInt .u32 ∧ cnvT Tryz.prog 238 5 = .toInt .u8 ∧ cnvT Tryz.prog 3 219 = .toInt .u64 ∧ cnvT Tryz.prog 210 3 = .toInt .i64 ∧ cnvT Tryz.prog 3 252 = .toInt .u64 ∧ cnvT Tryz.prog 5 3 = .toInt .i64 ∧ cnvT Tryz.prog 219 5 = .toInt .u8 := by and_intros <;> kernel_rfl
def tt := (And.intro (And.intro (And.intro (And.intro (And.intro (And.intro t2 (And.intro t3 t4)) (And.intro t5 (And.intro t6 t7))) (And.intro (And.intro t8 (And.intro t9 t10)) (And.intro t11 (And.intro t12 t13)))) (And.intro (And.intro (And.intro t14 (And.intro t15 t16)) (And.intro t17 (And.intro t18 t19))) (And.intro (And.intro t21 (And.intro t22 t23)) (And.intro (And.intro t24 t25) (And.intro t26 t27))))) (And.intro (And.intro (And.intro (And.intro t30 (And.intro t31 t32)) (And.intro t33 (And.intro t34 t40))) (And.intro (And.intro t41 (And.intro t42 t43)) (And.intro t44 (And.intro t45 t46)))) (And.intro (And.intro (And.intro t47 (And.intro t48 t51)) (And.intro t52 (And.intro t53 t63))) (And.intro (And.intro t64 (And.intro t73 t74)) (And.intro (And.intro t75 t76) (And.intro t77 t81)))))) (And.intro (And.intro (And.intro (And.intro (And.intro t84 (And.intro t98 t99)) (And.intro t100 (And.intro t101 t102))) (And.intro (And.intro t103 (And.intro t105 t110)) (And.intro t111 (And.intro t112 t118)))) (And.intro (And.intro (And.intro t123 (And.intro t124 t133)) (And.intro t150 (And.intro t151 t152))) (And.intro (And.intro t155 (And.intro t156 t158)) (And.intro (And.intro t168 t175) (And.intro t176 t183))))) (And.intro (And.intro (And.intro (And.intro t205 (And.intro t210 t218)) (And.intro t219 (And.intro t231 t238))) (And.intro (And.intro t250 (And.intro t251 t252)) (And.intro (And.intro t256 t260) (And.intro t264 t265)))) (And.intro (And.intro (And.intro t267 (And.intro t268 t269)) (And.intro t270 (And.intro t271 t273))) (And.intro (And.intro t274 (And.intro t276 t277)) (And.intro (And.intro t278 t279) (And.intro t280 tc)))))))
end Go.Abs.M
namespace Go.Abs
open Go
section
variable {P : Program} {T : Tab} {B : Base} {n : Nat} {cx cx' : Cx} {s : St} {σ σ' : Hp} {a : Act} {w w' : World} {K : St → Hp → Prop}
variable [Mode]
inductive Tr where
  | nil
  | st (i k : Nat) (t : Tr)
  | fork (i : Nat) (a : Tr) (j : Nat) (b : Tr)
def Tr.len : Tr → Nat
  | .nil => 0
  | .st _ _ t => t.len + 1
  | .fork _ a _ _ => a.len + 1
def one (P : Program) (T : Tab) (n : Nat) (ops : List Oper) (ds : List (Option Nat)) (i k : Nat) (N : St → Hp → Prop) (s : St) (σ : Hp) : Prop :=
  match ops[i]? with
  | none => False
  | some o => dOK n o.dst ∧ (match k, o.op with
       | 1, .load _ x => gate ds s o.guard (steady T.sd (ev s x) = true) True
       | 1, _ => False
       | _, _ => True) ∧ gate ds s o.guard (semOp P T o N s σ) (N (s.putO o.dst (.c undef)) σ)
def semT (P : Program) (T : Tab) (n : Nat) (ops : List Oper) (ds : List (Option Nat)) : Tr → (St → Hp → Prop) → St → Hp → Prop
  | .nil, K => K
  | .st i k r, K => one P T n ops ds i k (semT P T n ops ds r K)
  | .fork i a j b, K => fun s σ => one P T n ops ds i 2 (semT P T n ops ds a K) s σ ∧ one P T n ops ds j 2 (semT P T n ops ds b K) s σ
def schedT (P : Program) (ops : Array Oper) : Tr → Bool → Array Bool → Bool
  | .nil, _, listed => (Region.ready .any ops listed).isEmpty
  | .st i k r, early, listed =>
    (match k with
     | 0 => ((ops[i]?).map fun o => pureOp P o.op).getD false && (Region.ready .any ops listed).contains i && Region.free .any ops listed i
     | 1 => early && ((ops[i]?).map fun o => isLoad o.op).getD false && (Region.ready .any ops listed).contains i && Region.free .any ops listed i
     | _ => Region.ready .any ops listed == [i]) &&
    schedT P ops r early (listed.setIfInBounds i true)
  | .fork i a j b, early, listed => Region.ready .any ops listed == [i, j] && a.len == b.len && schedT P ops a early (listed.setIfInBounds i true) && schedT P ops b early (listed.setIfInBounds j true)
def forceL {α : Type} : List Bool → (List Bool → α) → α
  | [], k => k []
  | true :: l, k => forceL l fun m => k (true :: m)
  | false :: l, k => forceL l fun m => k (false :: m)
theorem forceL_eq {α : Type} : ∀ (l : List Bool) (k : List Bool → α), forceL l k = k l
 | [], _ => rfl
 | true :: l, k => by rw [forceL, forceL_eq l]
 | false :: l, k => by rw [forceL, forceL_eq l]
def setL : List Bool → Nat → List Bool
  | [], _ => []
  | _ :: l, 0 => true :: l
  | b :: l, i + 1 => b :: setL l i
theorem setL_eq : ∀ (l : List Bool) (i : Nat), setL l i = l.set i true
 | [], _ => rfl
 | _ :: _, 0 => rfl
 | b :: l, i + 1 => by rw [setL, setL_eq l i]; rfl
def zipR (q : Oper → Bool) : List Oper → List Bool → Nat → List Nat
  | o :: os, b :: ls, i => bif b then zipR q os ls (i + 1) else bif q o then i :: zipR q os ls (i + 1) else zipR q os ls (i + 1)
  | _, _, _ => []
theorem zipR_eq (q : Oper → Bool) : ∀ (os : List Oper) (ls : List Bool) (k : Nat), ls.length = os.length →
    zipR q os ls k = (List.range' k os.length).filter fun i => !ls.getD (i - k) true && ((os[i - k]?).map q).getD false
  | [], [], k, _ => rfl
  | o :: os, b :: ls, k, h => by
    have ih := zipR_eq q os ls (k + 1) (by simpa using h)
    have hf : (List.range' (k + 1) os.length).filter (fun i => !(b :: ls).getD (i - k) true && (((o :: os)[i - k]?).map q).getD false) = zipR q os ls (k + 1) := by
      rw [ih]
      refine List.filter_congr fun i hi => ?_
      obtain ⟨h1, _⟩ := List.mem_range'_1.1 hi
      rw [show i - k = (i - (k + 1)) + 1 by omega]
      simp
    rw [zipR, List.length_cons, List.range'_succ, List.filter_cons, hf]
    cases b <;> cases hq : q o <;> simp [hq]
def rdy (os : List Oper) (l : List Bool) : List Nat := zipR (fun o => o.after.toList.all fun e => !Region.binds .any e || l.getD e.on false) os l 0
theorem rdy_eq {os : List Oper} {l : List Bool} (h : l.length = os.length) : rdy os l = Region.ready .any ⟨os⟩ ⟨l⟩ := by
 unfold rdy Region.ready
 rw [zipR_eq _ _ _ _ h, List.range_eq_range']
 simp [Array.getD_eq_getD_getElem?, List.getD]
def zipA (q : Oper → Bool) (i : Nat) : List Oper → List Bool → Nat → Bool
  | o :: os, b :: ls, j => bif b then zipA q i os ls (j + 1) else (j == i || q o) && zipA q i os ls (j + 1)
  | _, _, _ => true
theorem zipA_eq (q : Oper → Bool) (i : Nat) : ∀ (os : List Oper) (ls : List Bool) (k : Nat), ls.length = os.length →
    zipA q i os ls k = (List.range' k os.length).all fun j => j == i || ls.getD (j - k) true || match os[j - k]? with | some o => q o | none => true
  | [], [], k, _ => rfl
  | o :: os, b :: ls, k, h => by
    have ih := zipA_eq q i os ls (k + 1) (by simpa using h)
    have hf : ((List.range' (k + 1) os.length).all fun j => j == i || (b :: ls).getD (j - k) true || match (o :: os)[j - k]? with | some o => q o | none => true) = zipA q i os ls (k + 1) := by
      rw [ih, Bool.eq_iff_iff, List.all_eq_true, List.all_eq_true]
      refine forall_congr' fun j => ⟨fun h hj => ?_, fun h hj => ?_⟩
      all_goals
        have h2 := h hj
        obtain ⟨h1, _⟩ := List.mem_range'_1.1 hj
        rw [show j - k = (j - (k + 1)) + 1 by omega] at *
        simpa using h2
    rw [zipA, List.length_cons, List.range'_succ, List.all_cons, hf]
    cases b <;> simp
def fre (os : List Oper) (l : List Bool) (i : Nat) : Bool :=
  match os[i]? with
  | none => false
  | some oi => zipA (fun oj => oj.after.toList.any (fun e => Region.binds .any e && e.on == i) || oi.apart ⟨os⟩ oj) i os l 0
theorem fre_eq {os : List Oper} {l : List Bool} (h : l.length = os.length) (i : Nat) : fre os l i = Region.free .any ⟨os⟩ ⟨l⟩ i := by
  unfold fre Region.free
  simp only [List.getElem?_toArray]
  cases os[i]? with
  | none => rfl
  | some oi =>
    simp only []
    rw [zipA_eq _ _ _ _ _ h, List.range_eq_range']
    simp [Array.getD_eq_getD_getElem?, List.getD]
    rfl
def schedF (P : Program) (ops : List Oper) : Tr → Bool → List Bool → Bool
  | .nil, _, l => (rdy ops l).isEmpty
  | .st i k r, early, l =>
    (match k with
     | 0 => ((ops[i]?).map fun o => pureOp P o.op).getD false && (rdy ops l).contains i && fre ops l i
     | 1 => early && ((ops[i]?).map fun o => isLoad o.op).getD false && (rdy ops l).contains i && fre ops l i
     | _ => rdy ops l == [i]) &&
    forceL (setL l i) fun m => schedF P ops r early m
  | .fork i a j b, early, l => rdy ops l == [i, j] && a.len == b.len && (forceL (setL l i) fun m => schedF P ops a early m) && (forceL (setL l j) fun m => schedF P ops b early m)
theorem setL_len (l : List Bool) (i : Nat) : (setL l i).length = l.length := by rw [setL_eq, List.length_set]
theorem schedF_eq (P : Program) (ops : List Oper) : ∀ (t : Tr) (early : Bool) (l : List Bool), l.length = ops.length → schedF P ops t early l = schedT P ⟨ops⟩ t early ⟨l⟩
  | .nil, _, _, h => by simp only [schedF, schedT, rdy_eq h]
  | .st i k r, early, l, h => by
    simp only [schedF, schedT, forceL_eq, schedF_eq P ops r early (setL l i) ((setL_len l i).trans h), rdy_eq h, fre_eq h, List.getElem?_toArray, List.setIfInBounds_toArray]
    rw [setL_eq]
  | .fork i a j b, early, l, h => by
    simp only [schedF, schedT, forceL_eq, schedF_eq P ops a early (setL l i) ((setL_len l i).trans h), schedF_eq P ops b early (setL l j) ((setL_len l j).trans h), rdy_eq h, List.setIfInBounds_toArray]
    rw [setL_eq, setL_eq]
theorem semT_sound (hT : T.ok P) {ops : Array Oper} (hs : Region.noSelect ops = true) {Q : Act → World → Prop} :
    ∀ (sched : Tr) (early : Bool) (listed : Array Bool) {B : Base} (_hsd : B.sd = T.sd) (_hQ : ∀ a w, KC B n K a w → Q a w) {cx : Cx} {s : St} {σ : Hp} {a : Act} {w : World}, schedT P ops sched early listed = true → SR B n cx s σ a w →
    (early = true → (∀ g, cx.I g → B.still g) ∧ (∀ d cells, T.sd d = true → s.l d = some cells → B.still (cx.L d))) →
    semT P T n ops.toList (ops.toList.map (·.dst)) sched K s σ → wpAnyH P .any ops (onlyN Q) (stillW B) sched.len listed a w
  | .nil, early, listed, B, hsd, hQ, cx, s, σ, a, w, hB, h, he, hk => by
    simp only [schedT, List.isEmpty_iff] at hB
    exact wpAnyH_done hB (hQ a w ⟨cx, s, σ, h, hk⟩) 0
  | .st i k r, early, listed, B, hsd, hQ, cx, s, σ, a, w, hB, h, he, hk => by
    simp only [schedT, Bool.and_eq_true] at hB
    obtain ⟨hB1, hB2⟩ := hB
    simp only [semT, one] at hk
    cases hi : ops.toList[i]? with
    | none => simp [hi] at hk
    | some o =>
      simp only [hi] at hk
      obtain ⟨hd, hst, hk⟩ := hk
      have hi' : ops[i]? = some o := by simpa using hi
      have take : ∀ {v : V} {x : Value}, (Region.wanted o (yielded ops a.tmps) = true ∧ (∀ w', stillW B w' → (execOp a.eval o).run P w' = .ok (.value x) w') ∨ Region.wanted o (yielded ops a.tmps) = false ∧ x = undef) → TR w cx v x →
          semT P T n ops.toList (ops.toList.map (·.dst)) r K (s.putO o.dst v) σ → (Region.ready .any ops listed).contains i = true → Region.free .any ops listed i = true →
          wpAnyH P .any ops (onlyN Q) (stillW B) (Tr.st i k r).len listed a w := fun {v x} hy hv hkr hr hf => by
        have h' := h.putO (dOK_spec hd) hv
        refine wpAnyH_take hi' hs hf hr (fun _ _ _ hq => hq.elim) (v := x) hy h.stillW ?_
        refine semT_sound hT hs r early _ hsd hQ hB2 h' (fun e1 => ?_) hkr
        obtain ⟨h1, h2⟩ := he e1
        refine ⟨h1, fun d cells hsd' hd' => h2 d cells hsd' ?_⟩
        cases hdst : o.dst with
        | none => rw [hdst] at hd'; exact hd'
        | some e => rw [hdst] at hd'; exact hd'
      rcases k with _ | _ | k
      · simp only [hi', Option.map_some, Option.getD_some, Bool.and_eq_true] at hB1
        obtain ⟨⟨hp, hr⟩, hf⟩ := hB1
        rcases gate_wanted (ops := ops) h hk with ⟨hw, hk⟩ | ⟨hw, hk⟩
        · obtain ⟨v, hv, hy⟩ := sem_pure hT hp hk
          obtain ⟨x, hx, ht⟩ := hy h
          exact take (.inl ⟨hw, fun w' _ => hx w'⟩) ht hv hr hf
        · exact take (.inr ⟨hw, rfl⟩) (.v (.c undef)) hk hr hf
      · simp only [hi', Option.map_some, Option.getD_some, Bool.and_eq_true] at hB1
        obtain ⟨⟨⟨hea, hp⟩, hr⟩, hf⟩ := hB1
        obtain ⟨h1, h2⟩ := he hea
        cases ho : o.op <;> simp only [ho, isLoad] at hp hst <;> try (cases hp; done)
        rename_i t x
        have hk2 := gate_and hst hk
        rcases gate_wanted (ops := ops) h hk2 with ⟨hw, hst, hk⟩ | ⟨hw, _, hk⟩
        · unfold semOp at hk
          simp only [ho] at hk
          obtain ⟨c1, c2, c3, hk⟩ := hk
          obtain ⟨v, hv, hy⟩ := qLoad_sound (P := P) (s := s) (σ := σ) c1 c2 c3 hk
          obtain ⟨y, b, off, hp', hyr, ht, hlp, hip⟩ := hy cx w (a.eval x) h.heap h.box (h.tr x)
          have hb : B.still b := by
            cases hx : ev s x with
            | lp d off' =>
              rw [hlp d off' hx]
              have hsd' : T.sd d = true := by simpa [steady, hx] using hst
              have hl : ∃ cells, s.l d = some cells := by
                rw [hx] at hk
                unfold qLoad at hk
                cases hld : s.l d with
                | none => simp [hld] at hk
                | some cells => exact ⟨cells, rfl⟩
              obtain ⟨cells, hl⟩ := hl
              exact h2 d cells hsd' hl
            | ip es i' off' => exact h1 b (hip es i' off' hx)
            | _ => simp [steady, hx] at hst
          refine take (.inl ⟨hw, fun w' hw' => ?_⟩) ht hv hr hf
          have := hyr w' ((hw' b hb).trans (h.stab b hb).symm)
          simp [execOp, ho, this]
        · exact take (.inr ⟨hw, rfl⟩) (.v (.c undef)) hk hr hf
      · have hB1 : Region.ready .any ops listed = [i] := by simpa using hB1
        refine wpAnyH_all (rs := [i]) hB1 (by simp) (fun j hj => ?_)
        have hj : j = i := by simpa using hj
        subst hj
        have next : ∀ a' w', KC B n (semT P T n ops.toList (ops.toList.map (·.dst)) r K) a' w' → stillW B w' ∧ wpAnyH P .any ops (onlyN Q) (stillW B) r.len (listed.setIfInBounds j true) a' w' := fun a' w' ⟨cx', s', σ', h', hk'⟩ =>
          ⟨h'.stillW, wpAnyH_mono (S' := stillW (B.re cx' s'.l T.sd w')) (fun w'' hw g hg => (hw g (.inl hg)).trans (h'.stab g hg)) _ _ _ _
            (semT_sound hT hs r early _ rfl (fun a'' w'' ⟨cx2, s2, σ2, h2, hk2⟩ => hQ a'' w'' ⟨cx2, s2, σ2, h2.ofRe hsd (fun g hg => h'.stab g hg), hk2⟩) hB2 (h'.re hsd)
              (fun _ => ⟨fun g hg => .inr (.inl hg), fun d cells hd hl => .inr (.inr ⟨d, cells, hd, hl, rfl⟩)⟩) hk')⟩
        unfold wpOp
        simp only [hi']
        rcases gate_wanted (ops := ops) h hk with ⟨hw, hk⟩ | ⟨hw, hk⟩
        · simp only [hw, if_true]
          exact .inl (Oper.wp_mono next (sem_sound hT hsd hd h hk))
        · simp only [hw, Bool.false_eq_true, if_false]
          exact next _ _ ⟨cx, _, σ, h.putO (dOK_spec hd) (.v (.c undef)), hk⟩
  | .fork i ra j rb, early, listed, B, hsd, hQ, cx, s, σ, a, w, hB, h, he, hk => by
    simp only [schedT, Bool.and_eq_true] at hB
    obtain ⟨⟨⟨hB1, hlen⟩, hBa⟩, hBb⟩ := hB
    have hlen : ra.len = rb.len := by simpa using hlen
    have hB1 : Region.ready .any ops listed = [i, j] := by simpa using hB1
    simp only [semT] at hk
    have go : ∀ (q : Nat) (r : Tr), r.len = ra.len → schedT P ops r early (listed.setIfInBounds q true) = true → (∀ {B : Base} (_hsd : B.sd = T.sd) (_hQ : ∀ a w, KC B n K a w → Q a w) {cx : Cx} {s : St} {σ : Hp} {a : Act} {w : World}, SR B n cx s σ a w →
        (early = true → (∀ g, cx.I g → B.still g) ∧ (∀ d cells, T.sd d = true → s.l d = some cells → B.still (cx.L d))) →
        semT P T n ops.toList (ops.toList.map (·.dst)) r K s σ → wpAnyH P .any ops (onlyN Q) (stillW B) r.len (listed.setIfInBounds q true) a w) →
        one P T n ops.toList (ops.toList.map (·.dst)) q 2 (semT P T n ops.toList (ops.toList.map (·.dst)) r K) s σ → wpOp P ops (onlyN Q) q (fun a' w' => stillW B w' ∧ wpAnyH P .any ops (onlyN Q) (stillW B) ra.len (listed.setIfInBounds q true) a' w') a w := fun q r hl hBr ih hk => by
      simp only [one] at hk
      cases hi : ops.toList[q]? with
      | none => simp [hi] at hk
      | some o =>
        simp only [hi] at hk
        obtain ⟨hd, hst, hk⟩ := hk
        have hi' : ops[q]? = some o := by simpa using hi
        have next : ∀ a' w', KC B n (semT P T n ops.toList (ops.toList.map (·.dst)) r K) a' w' → stillW B w' ∧ wpAnyH P .any ops (onlyN Q) (stillW B) ra.len (listed.setIfInBounds q true) a' w' := fun a' w' ⟨cx', s', σ', h', hk'⟩ =>
          ⟨h'.stillW, wpAnyH_mono (S' := stillW (B.re cx' s'.l T.sd w')) (fun w'' hw g hg => (hw g (.inl hg)).trans (h'.stab g hg)) _ _ _ _
            (hl ▸ ih rfl (fun a'' w'' ⟨cx2, s2, σ2, h2, hk2⟩ => hQ a'' w'' ⟨cx2, s2, σ2, h2.ofRe hsd (fun g hg => h'.stab g hg), hk2⟩) (h'.re hsd)
              (fun _ => ⟨fun g hg => .inr (.inl hg), fun d cells hd hl => .inr (.inr ⟨d, cells, hd, hl, rfl⟩)⟩) hk')⟩
        unfold wpOp
        simp only [hi']
        rcases gate_wanted (ops := ops) h hk with ⟨hw, hk⟩ | ⟨hw, hk⟩
        · simp only [hw, if_true]
          exact .inl (Oper.wp_mono next (sem_sound hT hsd hd h hk))
        · simp only [hw, Bool.false_eq_true, if_false]
          exact next _ _ ⟨cx, _, σ, h.putO (dOK_spec hd) (.v (.c undef)), hk⟩
    refine wpAnyH_all (rs := [i, j]) hB1 (by simp) (fun q hq => ?_)
    rcases List.mem_cons.1 hq with rfl | hq
    · exact go q ra rfl hBa (fun {B} hsd hQ {cx s σ a w} h he hk => semT_sound hT hs ra early _ hsd hQ hBa h he hk) hk.1
    · have hq : q = j := by simpa using hq
      subst hq
      exact go q rb hlen.symm hBb (fun {B} hsd hQ {cx s σ a w} h he hk => semT_sound hT hs rb early _ hsd hQ hBb h he hk) hk.2
theorem AW.drawT {Q : Exit → St → Hp → Prop} (hT : T.ok P) (hm : P.follows .mixedOrders = true) {id : Nat} {l : List Oper} (t : Tr) (hlen : t.len = l.length) (hs : Region.noSelect l.toArray = true)
  (hB : schedF P l t true (List.replicate l.length false) = true) (h : semT P T n l (l.map (·.dst)) t (fun s σ => Q .normal s σ) s σ) : AW P n (.region id l.toArray true) Q s σ :=
 fun B cx a w h1 _ h3 => by
  have hB : schedT P l.toArray t true (Array.replicate l.length false) = true := by
   rw [schedF_eq _ _ _ _ _ (by simp)] at hB
   exact hB
  have h4 := h3.drew
  have h5 := h4.toAt T.sd
  refine wp_mono (Q := onlyN (fun a w => QC B n Q .normal a w)) (wp_region_held (S := stillW (B.at cx s.l T.sd w.drew)) hm ?_) (fun e a w hq => by cases e <;> first | exact hq | exact hq.elim)
  have := semT_sound hT hs (Q := fun a w => QC B n Q .normal a w) (K := fun s σ => Q .normal s σ)
   t true (Array.replicate l.length false) (B := B.at cx s.l T.sd w.drew) rfl (fun a w ⟨cx', s', σ', h6, h7⟩ => ⟨cx', s', σ', h6.ofAt h1, h7⟩) hB h5 (fun _ => ⟨fun g hg => .inl hg, fun d cells hd hl => .inr ⟨d, cells, hd, hl, rfl⟩⟩) (by simpa using h)
  rw [hlen] at this
  simpa using this
section
variable {ops : List Oper} {i k d j : Nat} {r : Tr} {o : Oper} {ds : List (Option Nat)} {b : Bool}
theorem T.g (ho : ops[i]? = some o) (hs : stC T s k o.op) (hd : okd n o.dst = true) (hg : o.guard = none)
  (h : ∀ K' : St → Hp → Prop, (∀ s σ, semT P T n ops ds r K s σ → K' s σ) → semOp P T o K' s σ) : semT P T n ops ds (.st i k r) K s σ := by
 have := D.g (P := P) (T := T) (n := n) (s := s) (σ := σ) (K := semT P T n ops ds r K) (ds := ds) (ops := ops) (i := i) (k := k) (l := []) ho hs hd hg h
 exact this
theorem T.y (ho : ops[i]? = some o) (hs : stC T s k o.op) (hd : okd n o.dst = true) (hg : o.guard = some (j, b)) (hj : ds[j]? = some (some d)) (hb : s.t d = .c (.bool b))
  (h : ∀ K' : St → Hp → Prop, (∀ s σ, semT P T n ops ds r K s σ → K' s σ) → semOp P T o K' s σ) : semT P T n ops ds (.st i k r) K s σ := by
 have := D.y (P := P) (T := T) (n := n) (s := s) (σ := σ) (K := semT P T n ops ds r K) (ds := ds) (ops := ops) (i := i) (k := k) (l := []) ho hs hd hg hj hb h
 exact this
theorem T.x (ho : ops[i]? = some o) (hk : k = 1 → isLoad o.op = true) (hd : okd n o.dst = true) (hg : o.guard = some (j, b)) (hj : ds[j]? = some (some d)) (hb : s.t d = .c (.bool (!b)))
  (h : ∀ K' : St → Hp → Prop, (∀ s σ, semT P T n ops ds r K s σ → K' s σ) → K' (s.putO o.dst (.c undef)) σ) : semT P T n ops ds (.st i k r) K s σ := by
 have := D.x (P := P) (T := T) (n := n) (s := s) (σ := σ) (K := semT P T n ops ds r K) (ds := ds) (ops := ops) (i := i) (k := k) (l := []) ho hk hd hg hj hb h
 exact this
theorem T.u (ho : ops[i]? = some o) (hk : k = 1 → isLoad o.op = true) (hd : okd n o.dst = true) (hg : o.guard = some (j, b)) (hj : ds[j]? = some (some d)) (hb : s.t d = .c undef)
  (h : ∀ K' : St → Hp → Prop, (∀ s σ, semT P T n ops ds r K s σ → K' s σ) → K' (s.putO o.dst (.c undef)) σ) : semT P T n ops ds (.st i k r) K s σ := by
 have := D.u (P := P) (T := T) (n := n) (s := s) (σ := σ) (K := semT P T n ops ds r K) (ds := ds) (ops := ops) (i := i) (k := k) (l := []) ho hk hd hg hj hb h
 exact this
theorem T.nil (h : K s σ) : semT P T n ops ds .nil K s σ := h
theorem T.cut {t : Tr} (J : St → Hp → Prop) (h : J s σ) (k : ∀ s σ, J s σ → semT P T n ops ds t K s σ) : semT P T n ops ds t K s σ := k s σ h
theorem D.cut {t : List (Nat × Nat)} (J : St → Hp → Prop) (h : J s σ) (k : ∀ s σ, J s σ → semD P T n ops ds t K s σ) : semD P T n ops ds t K s σ := k s σ h
theorem S.cut {r : List Oper} (J : St → Hp → Prop) (h : J s σ) (k : ∀ s σ, J s σ → semL P T n ds r K s σ) : semL P T n ds r K s σ := k s σ h
theorem AW.cut {c : Code} {Q : Exit → St → Hp → Prop} (J : St → Hp → Prop) (h : J s σ) (k : ∀ s σ, J s σ → AW P n c Q s σ) : AW P n c Q s σ := k s σ h
theorem T.fork {a c : Tr} (h1 : semT P T n ops ds (.st i 2 a) K s σ) (h2 : semT P T n ops ds (.st j 2 c) K s σ) : semT P T n ops ds (.fork i a j c) K s σ := ⟨h1, h2⟩
end
end
end Go.Abs
namespace Go.Abs
open Go
section
variable {P : Program} {T : Tab} {B : Base} {n : Nat} {cx cx' : Cx} {s : St} {σ σ' : Hp} {a : Act} {w w' : World} {K : St → Hp → Prop}
variable [Mode]
inductive Tf where
  | nil
  | st (i k : Nat) (t : Tf)
  | fork (i : Nat) (a : Tf) (j : Nat) (b : Tf)
  | fork3 (i : Nat) (a : Tf) (j : Nat) (b : Tf) (k : Nat) (c : Tf)
def Tf.len : Tf → Nat
  | .nil => 0
  | .st _ _ t => t.len + 1
  | .fork _ a _ _ => a.len + 1
  | .fork3 _ a _ _ _ _ => a.len + 1
def semF (P : Program) (T : Tab) (n : Nat) (ops : List Oper) (ds : List (Option Nat)) : Tf → (St → Hp → Prop) → St → Hp → Prop
  | .nil, K => K
  | .st i k r, K => one P T n ops ds i k (semF P T n ops ds r K)
  | .fork i a j b, K => fun s σ => one P T n ops ds i 2 (semF P T n ops ds a K) s σ ∧ one P T n ops ds j 2 (semF P T n ops ds b K) s σ
  | .fork3 i a j b k c, K => fun s σ => one P T n ops ds i 2 (semF P T n ops ds a K) s σ ∧ one P T n ops ds j 2 (semF P T n ops ds b K) s σ ∧ one P T n ops ds k 2 (semF P T n ops ds c K) s σ
section
variable {ops : List Oper} {i k d j : Nat} {r : Tf} {o : Oper} {ds : List (Option Nat)} {b : Bool}
theorem F.g (ho : ops[i]? = some o) (hs : stC T s k o.op) (hd : okd n o.dst = true) (hg : o.guard = none)
  (h : ∀ K' : St → Hp → Prop, (∀ s σ, semF P T n ops ds r K s σ → K' s σ) → semOp P T o K' s σ) : semF P T n ops ds (.st i k r) K s σ := by
 have := D.g (P := P) (T := T) (n := n) (s := s) (σ := σ) (K := semF P T n ops ds r K) (ds := ds) (ops := ops) (i := i) (k := k) (l := []) ho hs hd hg h
 exact this
theorem F.y (ho : ops[i]? = some o) (hs : stC T s k o.op) (hd : okd n o.dst = true) (hg : o.guard = some (j, b)) (hj : ds[j]? = some (some d)) (hb : s.t d = .c (.bool b))
  (h : ∀ K' : St → Hp → Prop, (∀ s σ, semF P T n ops ds r K s σ → K' s σ) → semOp P T o K' s σ) : semF P T n ops ds (.st i k r) K s σ := by
 have := D.y (P := P) (T := T) (n := n) (s := s) (σ := σ) (K := semF P T n ops ds r K) (ds := ds) (ops := ops) (i := i) (k := k) (l := []) ho hs hd hg hj hb h
 exact this
theorem F.x (ho : ops[i]? = some o) (hk : k = 1 → isLoad o.op = true) (hd : okd n o.dst = true) (hg : o.guard = some (j, b)) (hj : ds[j]? = some (some d)) (hb : s.t d = .c (.bool (!b)))
  (h : ∀ K' : St → Hp → Prop, (∀ s σ, semF P T n ops ds r K s σ → K' s σ) → K' (s.putO o.dst (.c undef)) σ) : semF P T n ops ds (.st i k r) K s σ := by
 have := D.x (P := P) (T := T) (n := n) (s := s) (σ := σ) (K := semF P T n ops ds r K) (ds := ds) (ops := ops) (i := i) (k := k) (l := []) ho hk hd hg hj hb h
 exact this
theorem F.u (ho : ops[i]? = some o) (hk : k = 1 → isLoad o.op = true) (hd : okd n o.dst = true) (hg : o.guard = some (j, b)) (hj : ds[j]? = some (some d)) (hb : s.t d = .c undef)
  (h : ∀ K' : St → Hp → Prop, (∀ s σ, semF P T n ops ds r K s σ → K' s σ) → K' (s.putO o.dst (.c undef)) σ) : semF P T n ops ds (.st i k r) K s σ := by
 have := D.u (P := P) (T := T) (n := n) (s := s) (σ := σ) (K := semF P T n ops ds r K) (ds := ds) (ops := ops) (i := i) (k := k) (l := []) ho hk hd hg hj hb h
 exact this
theorem F.nil (h : K s σ) : semF P T n ops ds .nil K s σ := h
theorem F.cut {t : Tf} (J : St → Hp → Prop) (h : J s σ) (k : ∀ s σ, J s σ → semF P T n ops ds t K s σ) : semF P T n ops ds t K s σ := k s σ h
theorem F.fork3 {a c e : Tf} {q : Nat} (h1 : semF P T n ops ds (.st i 2 a) K s σ) (h2 : semF P T n ops ds (.st j 2 c) K s σ) (h3 : semF P T n ops ds (.st q 2 e) K s σ) : semF P T n ops ds (.fork3 i a j c q e) K s σ := ⟨h1, h2, h3⟩
theorem F.fork {a c : Tf} (h1 : semF P T n ops ds (.st i 2 a) K s σ) (h2 : semF P T n ops ds (.st j 2 c) K s σ) : semF P T n ops ds (.fork i a j c) K s σ := ⟨h1, h2⟩
end
end
end Go.Abs
namespace Go.Abs
open Go
section
variable {P : Program} {σ : Hp}
variable [Mode]
theorem ACalls.freeze {f : FuncId} {args : List V} {R R' : V → Hp → Prop} (h : ACalls P f args σ R)
  (hr : ∀ v σ', R v σ' → ∃ k T es, v = .gl k ∧ σ'.gr k = some (T, es) ∧ R' (.sl es) (σ'.setGr k none)) : ACalls P f args σ R' := by
 refine ⟨h.1, fun cx w xs hH ha => (h.2 cx w xs hH ha).mono fun e w' ⟨v, r, cx', σ', h1, h2, h3, h4⟩ => ?_⟩
 obtain ⟨k, T, es, rfl, hk, hR⟩ := hr v σ' h4
 obtain ⟨cx2, hle, hL, hI, hH2, hv⟩ := h3.heap.freeze hk
 have hsub : ∀ g, (σ'.setGr k none).own cx2 g → σ'.own cx' g := fun g hg => by
  rcases hg with ⟨c, hc⟩ | ⟨j, x, hj, hb⟩
  ·exact .inl ⟨c, hc⟩
  ·by_cases ej : j = k
   ·simp [Hp.setGr, ej] at hj
   ·simp only [Hp.setGr, ej, if_false] at hj
    have hjn := (h3.heap.gr j x.1 x.2 hj).1
    rw [hle.M j hjn] at hb
    exact .inr ⟨j, x, hj, hb⟩
 have hcx : r = cx'.M k := by cases h2; rfl
 refine ⟨.sl es, r, cx2, σ'.setGr k none, h1, hcx ▸ hv, ⟨hH2, ⟨h3.ext.os, h3.ext.tape, h3.ext.output, h3.ext.size, h3.ext.block, h3.ext.le.trans hle, fun g hg => ?_, fun g hg => h3.ext.fnew g (hsub g hg)⟩, fun j x hj => ?_, fun g x hg => h3.onew g x hg⟩, hR⟩
 ·rcases hI g hg with hg | hg
  ·exact h3.ext.inew g hg
  ·rcases h3.ext.fnew g (.inr ⟨k, _, hk, hg⟩) with h | h
   ·exact .inr (.inl h)
   ·exact .inr (.inr h)
 ·by_cases ej : j = k
  ·simp [Hp.setGr, ej] at hj
  ·simp only [Hp.setGr, ej, if_false] at hj
   exact h3.gnew j x hj
end
end Go.Abs
namespace Go.Abs
open Go
section
variable {P : Program}
variable [Mode]
end
section
variable {P : Program} {T : Tab} {B : Base} {n : Nat} {cx cx' : Cx} {s : St} {σ σ' : Hp} {a : Act} {w w' : World} {K : St → Hp → Prop}
variable [Mode]
def semAppendG (P : Program) (t : TypeId) (x y : V) (d : Option Nat) (K : St → Hp → Prop) (s : St) (σ : Hp) : Prop :=
  match dstE σ (P.elem t) (szT P (P.elem t)) x, y with
  | some (ok, es), .c (.int _ c) => ∃ z, zeroT P (P.elem t) = some z ∧ slT P t = true ∧ szT P (P.elem t) ≠ 0 ∧ z.cells.size = szT P (P.elem t) ∧ oneAll z.cells.toList = true ∧ 0 < c ∧ es.length + c.toNat ≤ maxLen ∧
      (es.length + c.toNat) * P.bytesOf (P.elem t) ≤ reach ∧
      ∀ k', (σ.delO ok).gr k' = none → K (s.putO d (.gl k')) ((σ.delO ok).setGr k' (some ((P.elem t, szT P (P.elem t)), es ++ List.replicate c.toNat (z.cells.toList.map .c))))
  | _, _ => False
def semX (P : Program) (T : Tab) (o : Oper) (K : St → Hp → Prop) (s : St) (σ : Hp) : Prop :=
  semOp P T o K s σ ∨ ∃ t t' x y ki, P.underlying t' = some (.int ki) ∧ o.op = .call { callee := .builtin .append, args := #[x, y], argTypes := #[t, t'] } ∧ semAppendG P t (ev s x) (ev s y) o.dst K s σ
def semLX (P : Program) (T : Tab) (n : Nat) : List Oper → (St → Hp → Prop) → St → Hp → Prop
  | [], K, s, σ => K s σ
  | o :: r, K, s, σ => dOK n o.dst ∧ o.guard = none ∧ semX P T o (semLX P T n r K) s σ
theorem XS.g {o : Oper} {r : List Oper} (hd : okd n o.dst = true) (hg : o.guard = none) (h : semOp P T o (semLX P T n r K) s σ) : semLX P T n (o :: r) K s σ := ⟨okd_ok hd, hg, .inl h⟩
theorem XS.mk {o : Oper} {r : List Oper} {t t' : TypeId} {x y : Operand} {ki : IntKind} (hd : okd n o.dst = true) (hg : o.guard = none) (h1 : P.underlying t' = some (.int ki)) (h2 : o.op = .call { callee := .builtin .append, args := #[x, y], argTypes := #[t, t'] })
  (h : semAppendG P t (ev s x) (ev s y) o.dst (semLX P T n r K) s σ) : semLX P T n (o :: r) K s σ := ⟨okd_ok hd, hg, .inr ⟨t, t', x, y, ki, h1, h2, h⟩⟩
end
end Go.Abs
namespace Go.Abs
open Go
section
variable {P : Program} {T : Tab} {n : Nat} {r : Option Nat} {s : St} {σ : Hp} {K : St → Hp → Prop} {Q Q' : Exit → St → Hp → Prop}
variable [Mode]
abbrev RF (ro : Option Nat) : Fence := { Fence.wide with round := ro }
theorem CallsIn.toRF {ro : Option Nat} {m : Nat} {f : FuncId} {args : Array Value} {w : World} {R : Ending → World → Prop} (h : CallsIn Fence.wide m P f args w R) : CallsIn (RF ro) m P f args w R := h
theorem upon_in' {o : Oper} {a : Act} {K K' : Act → World → Prop} {Q Q' : Exit → Act → World → Prop} (hP : ∀ c a w, Q (.panic c) a w → Q' (.panic c) a w) (hO : LetsOut Q → LetsOut Q') (hK : ∀ a w, K a w → K' a w) : ∀ {x : Result Next}, o.upon P a K Q x → o.uponIn (RF r) 0 P a K' Q' x
  | .ok (.value v) w, h => hK _ _ h
  | .ok .skip w, h => hK _ _ h
  | .ok (.defer d) w, h => hK _ _ h
  | .ok (.enter f args) w, h => by
    refine ⟨fun e => (by cases e), CallsIn.toRF ((callsIn_wide (n := 0)).2 ?_)⟩
    refine Calls.mono h fun e w'' he => ?_
    cases e with
    | returned v => exact hK _ _ he
    | panicked c => exact hP _ _ _ he
    | outgrown => exact hO he
  | .ok (.row row args) w, h => by
    refine ⟨fun e => (by cases e), fun c cs _ => ?_⟩
    obtain ⟨v, w', h1, h2⟩ := h c cs
    exact ⟨v, w', hK _ _ h1, stepsIn_wide.2 h2⟩
  | .ok (.round ..) w, h => h.elim
  | .halt (.panic v) w, h => hP _ _ _ h
  | .halt (.exit ..) w, h => h.elim
  | .halt (.fatal ..) w, h => h.elim
  | .halt (.stuck ..) w, h => h.elim
  | .halt (.unsupported ..) w, h => h.elim
theorem upon_in {o : Oper} {a : Act} {K K' : Act → World → Prop} {Q : Exit → Act → World → Prop} (hK : ∀ a w, K a w → K' a w) {x : Result Next} (h : o.upon P a K Q x) : o.uponIn (RF r) 0 P a K' Q x :=
 upon_in' (fun _ _ _ h => h) id hK h
theorem onlyN_no {Q : Act → World → Prop} : ¬ LetsOut (onlyN Q) := fun ⟨_, _, h⟩ => h
def noDefer (ops : List Oper) : Bool := ops.all fun o => match o.op with | .defer _ => false | _ => true
theorem noDefer_spec {ops : List Oper} (h : noDefer ops = true) {i : Nat} {o : Oper} (hi : ops.toArray[i]? = some o) : ∀ c, o.op ≠ .defer c := fun c e => by
 have := List.all_eq_true.1 h o (List.mem_of_getElem? (by simpa using hi))
 rw [e] at this; cases this
theorem ops_in {ops : List Oper} {Q : Exit → Act → World → Prop} (hQ : ¬ LetsOut Q) (hd : noDefer ops = true) : ∀ (l : List Nat) (a : Act) (w : World), wpOps P ops.toArray Q l a w → wpOpsIn (RF r) 0 P ops.toArray Q l a w
  | [], a, w, h => h
  | i :: l, a, w, h => by
    simp only [wpOps, wpOpsIn] at h ⊢
    cases ho : ops.toArray[i]? with
    | none => simp only [ho] at h ⊢; exact ops_in hQ hd l a w h
    | some o =>
      simp only [ho] at h ⊢
      split
      · rename_i hw
        rw [if_pos hw] at h
        refine ⟨fun _ _ => trivial, ?_⟩
        rw [Oper.semAt_eq _ _ _ (noDefer_spec hd ho)]
        rcases h with h | h
        · exact upon_in (fun a w h => ops_in hQ hd l a w h) h
        · exact (hQ h.2).elim
      · rename_i hw
        rw [if_neg hw] at h
        exact ⟨fun _ _ => trivial, ops_in hQ hd l _ w h⟩
def AWR (P : Program) (n : Nat) (r : Option Nat) (c : Code) (Q : Exit → St → Hp → Prop) (s : St) (σ : Hp) : Prop :=
  ∀ (B : Base) (cx : Cx) (a : Act) (w : World), (∀ g, ¬ B.still g) → B.sd = (fun _ => false) → SR B n cx s σ a w → c.wpIn (RF r) 0 P (QC B n Q) a w
theorem AWR.mono {c : Code} (h : AWR P n r c Q s σ) (hq : ∀ e s σ, Q e s σ → Q' e s σ) : AWR P n r c Q' s σ :=
 fun B cx a w h1 h2 h3 => wpIn_mono (h B cx a w h1 h2 h3) fun e _ _ ⟨cx', s', σ', h4, h5⟩ => ⟨cx', s', σ', h4, hq e s' σ' h5⟩
theorem AWR.skip (h : Q .normal s σ) : AWR P n r .skip Q s σ := fun _ cx _ _ _ _ h3 => wpIn_skip ⟨cx, s, σ, h3, h⟩
theorem AWR.exit {id : Nat} (h : Q (.exit id) s σ) : AWR P n r (.exit id) Q s σ := fun _ cx _ _ _ _ h3 => wpIn_exit ⟨cx, s, σ, h3, h⟩
theorem AWR.ret (h : Q .ret s σ) : AWR P n r .ret Q s σ := fun _ cx _ _ _ _ h3 => wpIn_ret ⟨cx, s, σ, h3, h⟩
theorem AWR.seq {x y : Code} (h : AWR P n r x (thenS (AWR P n r y Q) Q) s σ) : AWR P n r (.seq x y) Q s σ :=
 fun B cx a w h1 h2 h3 => wpIn_seq (wpIn_mono (h B cx a w h1 h2 h3) fun e a' w' ⟨cx', s', σ', h4, h5⟩ => by
  cases e with
  | normal => exact h5 B cx' a' w' h1 h2 h4
  | _ => exact ⟨cx', s', σ', h4, h5⟩)
theorem AWR.seq_k {x y : Code} (h : ∀ K : St → Hp → Prop, (∀ s σ, AWR P n r y Q s σ → K s σ) → AWR P n r x (thenS K Q) s σ) : AWR P n r (.seq x y) Q s σ :=
 .seq (h _ fun _ _ h => h)
theorem AWR.cond {c : Operand} {x y : Code} {b : Bool} (hc : ev s c = .c (.bool b)) (ht : b = true → AWR P n r x Q s σ) (hf : b = false → AWR P n r y Q s σ) : AWR P n r (.cond c x y) Q s σ :=
 fun B cx a w h1 h2 h3 => by
  have hv := h3.tr c
  rw [hc] at hv
  exact wpIn_cond_split hv.c_eq (fun e => ht e B cx a w h1 h2 h3) (fun e => hf e B cx a w h1 h2 h3)
theorem AWR.block {id : Nat} {c : Code} (h : AWR P n r c (inBlockS id Q) s σ) : AWR P n r (.block id c) Q s σ :=
  fun B cx a w h1 h2 h3 => wpIn_block (wpIn_mono (h B cx a w h1 h2 h3) fun e a' w' ⟨cx', s', σ', h4, h5⟩ => by
    cases e with
    | exit id' =>
      simp only [Exit.inBlock, inBlockS] at h5 ⊢
      split
      · rename_i e; rw [if_pos e] at h5; exact ⟨cx', s', σ', h4, h5⟩
      · rename_i e; rw [if_neg e] at h5; exact ⟨cx', s', σ', h4, h5⟩
    | _ => exact ⟨cx', s', σ', h4, h5⟩)
theorem wpIn_onlyN {c : Code} {B : Base} {a : Act} {w : World} (h : c.wpIn (RF r) 0 P (onlyN fun a w => QC B n Q .normal a w) a w) : c.wpIn (RF r) 0 P (QC B n Q) a w :=
 wpIn_mono h fun e a w hq => by cases e <;> first | exact hq | exact hq.elim
theorem AWR.region (hT : T.ok P) (hsd : T.sd = fun _ => false) {id : Nat} {l : List Oper} (hd : noDefer l = true) (h : semL P T n (l.map (·.dst)) l (fun s σ => Q .normal s σ) s σ) : AWR P n r (.region id l.toArray false) Q s σ :=
 fun B cx a w _ h2 h3 => wpIn_onlyN (wpIn_region (ops_in onlyN_no hd _ _ _ (by
  have := semL_sound (Q := onlyN fun a w => QC B n Q .normal a w) hT (h2.trans hsd.symm) (ops := l.toArray) l h3 (fun a w ⟨cx, s, σ, h4, h5⟩ => ⟨cx, s, σ, h4, h5⟩) (by simpa using h)
  rw [List.range_eq_range', ← Array.length_toList, wpOps_eq_wpList l.toArray.toList 0 (by simp)]
  simpa using this)))
theorem AWR.reg0 {id : Nat} {l : List Oper} (h : noDefer l = true ∧ semL P {} n (l.map (·.dst)) l (fun s σ => Q .normal s σ) s σ) : AWR P n r (.region id l.toArray false) Q s σ :=
 .region (T := {}) (fun _ _ h => by cases h) rfl h.1 h.2
end
end Go.Abs
namespace Go.Abs.M
open Go Go.Abs Go.Proofs
set_option maxRecDepth 20000
theorem J2 {a b : Prop} (xa : a) (xb : b) : a ∧ b := ⟨xa, xb⟩
theorem J3 {a b c : Prop} (xa : a) (xb : b) (xc : c) : a ∧ b ∧ c := ⟨xa, ⟨xb, xc⟩⟩
theorem J4 {a b c d : Prop} (xa : a) (xb : b) (xc : c) (xd : d) : a ∧ b ∧ c ∧ d := ⟨xa, ⟨xb, ⟨xc, xd⟩⟩⟩
theorem J5 {a b c d e : Prop} (xa : a) (xb : b) (xc : c) (xd : d) (xe : e) : a ∧ b ∧ c ∧ d ∧ e := ⟨xa, ⟨xb, ⟨xc, ⟨xd, xe⟩⟩⟩⟩
theorem J6 {a b c d e f : Prop} (xa : a) (xb : b) (xc : c) (xd : d) (xe : e) (xf : f) : a ∧ b ∧ c ∧ d ∧ e ∧ f := ⟨xa, ⟨xb, ⟨xc, ⟨xd, ⟨xe, xf⟩⟩⟩⟩⟩
theorem J7 {a b c d e f g : Prop} (xa : a) (xb : b) (xc : c) (xd : d) (xe : e) (xf : f) (xg : g) : a ∧ b ∧ c ∧ d ∧ e ∧ f ∧ g := ⟨xa, ⟨xb, ⟨xc, ⟨xd, ⟨xe, ⟨xf, xg⟩⟩⟩⟩⟩⟩
theorem J8 {a b c d e f g h : Prop} (xa : a) (xb : b) (xc : c) (xd : d) (xe : e) (xf : f) (xg : g) (xh : h) : a ∧ b ∧ c ∧ d ∧ e ∧ f ∧ g ∧ h := ⟨xa, ⟨xb, ⟨xc, ⟨xd, ⟨xe, ⟨xf, ⟨xg, xh⟩⟩⟩⟩⟩⟩⟩
theorem J9 {a b c d e f g h i : Prop} (xa : a) (xb : b) (xc : c) (xd : d) (xe : e) (xf : f) (xg : g) (xh : h) (xi : i) : a ∧ b ∧ c ∧ d ∧ e ∧ f ∧ g ∧ h ∧ i := ⟨xa, ⟨xb, ⟨xc, ⟨xd, ⟨xe, ⟨xf, ⟨xg, ⟨xh, xi⟩⟩⟩⟩⟩⟩⟩⟩
theorem J10 {a b c d e f g h i j : Prop} (xa : a) (xb : b) (xc : c) (xd : d) (xe : e) (xf : f) (xg : g) (xh : h) (xi : i) (xj : j) : a ∧ b ∧ c ∧ d ∧ e ∧ f ∧ g ∧ h ∧ i ∧ j := ⟨xa, ⟨xb, ⟨xc, ⟨xd, ⟨xe, ⟨xf, ⟨xg, ⟨xh, ⟨xi, xj⟩⟩⟩⟩⟩⟩⟩⟩⟩
theorem J11 {a b c d e f g h i j k : Prop} (xa : a) (xb : b) (xc : c) (xd : d) (xe : e) (xf : f) (xg : g) (xh : h) (xi : i) (xj : j) (xk : k) : a ∧ b ∧ c ∧ d ∧ e ∧ f ∧ g ∧ h ∧ i ∧ j ∧ k := ⟨xa, ⟨xb, ⟨xc, ⟨xd, ⟨xe, ⟨xf, ⟨xg, ⟨xh, ⟨xi, ⟨xj, xk⟩⟩⟩⟩⟩⟩⟩⟩⟩⟩
theorem J12 {a b c d e f g h i j k l : Prop} (xa : a) (xb : b) (xc : c) (xd : d) (xe : e) (xf : f) (xg : g) (xh : h) (xi : i) (xj : j) (xk : k) (xl : l) : a ∧ b ∧ c ∧ d ∧ e ∧ f ∧ g ∧ h ∧ i ∧ j ∧ k ∧ l := ⟨xa, ⟨xb, ⟨xc, ⟨xd, ⟨xe, ⟨xf, ⟨xg, ⟨xh, ⟨xi, ⟨xj, ⟨xk, xl⟩⟩⟩⟩⟩⟩⟩⟩⟩⟩⟩
section
variable {P : Program} {T : Tab} {n id i kk : Nat} {s s' : St} {σ σ' : Hp} {K : St → Hp → Prop} {ds : List (Option Nat)} {o : Oper} {r l ops : List Oper} {q : List (Nat × Nat)} {qt : Tr} {qf : Tf} {Q : Exit → St → Hp → Prop} {y : Code} {A : Prop} [Mode]
theorem S.rn (e : A) (k : K s' σ') (h : A → ∀ K' : St → Hp → Prop, K' s' σ' → semL P T n ds l K' s σ := by
    intro e K' k'
    repeat (first
      | (refine S.g rfl rfl fun Y Z => ?_; simp only [zz, tt, reduceIte, Nat.reduceEqDiff, Nat.reduceLT, Nat.reduceLeDiff, Nat.reduceAdd, reduceCtorEq, Nat.reduceMul, e]; refine Z _ _ ?_; clear Z Y)
      | (refine S.y rfl rfl rfl rfl fun Y Z => ?_; simp only [zz, tt, reduceIte, Nat.reduceEqDiff, Nat.reduceLT, Nat.reduceLeDiff, Nat.reduceAdd, reduceCtorEq, Nat.reduceMul, e]; refine Z _ _ ?_; clear Z Y)
      | ((first | refine S.x rfl rfl rfl rfl fun Y Z => ?_ | refine S.u rfl rfl rfl rfl fun Y Z => ?_); simp only [ze, reduceIte, Nat.reduceEqDiff, Nat.reduceLT, Nat.reduceLeDiff, Nat.reduceAdd, reduceCtorEq, Nat.reduceMul]; refine Z _ _ ?_; clear Z Y))
    refine S.nil ?_
    exact k') : semL P T n ds l K s σ := h e K k
theorem AW.sr (e : A) (k : AW P n y Q s' σ') (h : A → ∀ K' : St → Hp → Prop, K' s' σ' → semL P {} n (l.map (·.dst)) l K' s σ := by
    intro e K' k'
    repeat (first
      | (refine S.g rfl rfl fun Y Z => ?_; simp only [zz, tt, reduceIte, Nat.reduceEqDiff, Nat.reduceLT, Nat.reduceLeDiff, Nat.reduceAdd, reduceCtorEq, Nat.reduceMul, e]; refine Z _ _ ?_; clear Z Y)
      | (refine S.y rfl rfl rfl rfl fun Y Z => ?_; simp only [zz, tt, reduceIte, Nat.reduceEqDiff, Nat.reduceLT, Nat.reduceLeDiff, Nat.reduceAdd, reduceCtorEq, Nat.reduceMul, e]; refine Z _ _ ?_; clear Z Y)
      | ((first | refine S.x rfl rfl rfl rfl fun Y Z => ?_ | refine S.u rfl rfl rfl rfl fun Y Z => ?_); simp only [ze, reduceIte, Nat.reduceEqDiff, Nat.reduceLT, Nat.reduceLeDiff, Nat.reduceAdd, reduceCtorEq, Nat.reduceMul]; refine Z _ _ ?_; clear Z Y))
    refine S.nil ?_
    exact k') : AW P n (.seq (.region id l.toArray false) y) Q s σ := .seq (.reg0 (h e _ k))
theorem S.one (e : A) (k : semL P T n ds r K s' σ') (h : A → ∀ K' : St → Hp → Prop, K' s' σ' → semL P T n ds [o] K' s σ := by
    intro e K' k'
    first
      | (refine S.g rfl rfl fun Y Z => ?_; simp only [zz, tt, reduceIte, Nat.reduceEqDiff, Nat.reduceLT, Nat.reduceLeDiff, Nat.reduceAdd, reduceCtorEq, Nat.reduceMul, e]; refine Z _ _ (S.nil ?_); exact k')
      | (refine S.y rfl rfl rfl rfl fun Y Z => ?_; simp only [zz, tt, reduceIte, Nat.reduceEqDiff, Nat.reduceLT, Nat.reduceLeDiff, Nat.reduceAdd, reduceCtorEq, Nat.reduceMul, e]; refine Z _ _ (S.nil ?_); exact k')
      | ((first | refine S.x rfl rfl rfl rfl fun Y Z => ?_ | refine S.u rfl rfl rfl rfl fun Y Z => ?_); simp only [ze, reduceIte, Nat.reduceEqDiff, Nat.reduceLT, Nat.reduceLeDiff, Nat.reduceAdd, reduceCtorEq, Nat.reduceMul]; refine Z _ _ (S.nil ?_); exact k')) : semL P T n ds (o :: r) K s σ := h e _ k
theorem D.one (e : A) (k : semD P T n ops ds q K s' σ') (h : A → ∀ K' : St → Hp → Prop, K' s' σ' → semD P T n ops ds [(i, kk)] K' s σ := by
    intro e K' k'
    first
      | (refine D.g rfl (by first | exact True.intro | rfl | (simp only [stC, ze, simprocAttr, e]; first | done | rfl)) rfl rfl fun Y Z => ?_; simp only [zz, tt, reduceIte, Nat.reduceEqDiff, Nat.reduceLT, Nat.reduceLeDiff, Nat.reduceAdd, reduceCtorEq, Nat.reduceMul, e]; refine Z _ _ (D.nil ?_); exact k')
      | (refine D.y rfl (by first | exact True.intro | rfl | (simp only [stC, ze, simprocAttr, e]; first | done | rfl)) rfl rfl rfl rfl fun Y Z => ?_; simp only [zz, tt, reduceIte, Nat.reduceEqDiff, Nat.reduceLT, Nat.reduceLeDiff, Nat.reduceAdd, reduceCtorEq, Nat.reduceMul, e]; refine Z _ _ (D.nil ?_); exact k')
      | ((first | refine D.x rfl (by first | (intro h; cases h; done) | (intro _; rfl)) rfl rfl rfl rfl fun Y Z => ?_ | refine D.u rfl (by first | (intro h; cases h; done) | (intro _; rfl)) rfl rfl rfl rfl fun Y Z => ?_); simp only [ze, reduceIte, Nat.reduceEqDiff, Nat.reduceLT, Nat.reduceLeDiff, Nat.reduceAdd, reduceCtorEq, Nat.reduceMul]; refine Z _ _ (D.nil ?_); exact k')) : semD P T n ops ds ((i, kk) :: q) K s σ := h e _ k
theorem T.one (e : A) (k : semT P T n ops ds qt K s' σ') (h : A → ∀ K' : St → Hp → Prop, K' s' σ' → semD P T n ops ds [(i, kk)] K' s σ := by
    intro e K' k'
    first
      | (refine D.g rfl (by first | exact True.intro | rfl | (simp only [stC, ze, simprocAttr, e]; first | done | rfl)) rfl rfl fun Y Z => ?_; simp only [zz, tt, reduceIte, Nat.reduceEqDiff, Nat.reduceLT, Nat.reduceLeDiff, Nat.reduceAdd, reduceCtorEq, Nat.reduceMul, e]; refine Z _ _ (D.nil ?_); exact k')
      | (refine D.y rfl (by first | exact True.intro | rfl | (simp only [stC, ze, simprocAttr, e]; first | done | rfl)) rfl rfl rfl rfl fun Y Z => ?_; simp only [zz, tt, reduceIte, Nat.reduceEqDiff, Nat.reduceLT, Nat.reduceLeDiff, Nat.reduceAdd, reduceCtorEq, Nat.reduceMul, e]; refine Z _ _ (D.nil ?_); exact k')
      | ((first | refine D.x rfl (by first | (intro h; cases h; done) | (intro _; rfl)) rfl rfl rfl rfl fun Y Z => ?_ | refine D.u rfl (by first | (intro h; cases h; done) | (intro _; rfl)) rfl rfl rfl rfl fun Y Z => ?_); simp only [ze, reduceIte, Nat.reduceEqDiff, Nat.reduceLT, Nat.reduceLeDiff, Nat.reduceAdd, reduceCtorEq, Nat.reduceMul]; refine Z _ _ (D.nil ?_); exact k')) : semT P T n ops ds (.st i kk qt) K s σ := h e _ k
theorem S.sp {x : Bool} {s1 : Bool → St} (e : A) (k : ∀ b, x = b → semL P T n ds r K (s1 b) σ') (h : A → ∀ K' : St → Hp → Prop, (∀ b, x = b → K' (s1 b) σ') → semL P T n ds [o] K' s σ := by
    intro e K' k'
    first
      | (refine S.g rfl rfl fun Y Z => ?_; simp only [zz, tt, reduceIte, Nat.reduceEqDiff, Nat.reduceLT, Nat.reduceLeDiff, Nat.reduceAdd, reduceCtorEq, Nat.reduceMul, e]; refine S.bool fun b hb => ?_; refine Z _ _ (S.nil ?_); exact k' b hb)
      | (refine S.y rfl rfl rfl rfl fun Y Z => ?_; simp only [zz, tt, reduceIte, Nat.reduceEqDiff, Nat.reduceLT, Nat.reduceLeDiff, Nat.reduceAdd, reduceCtorEq, Nat.reduceMul, e]; refine S.bool fun b hb => ?_; refine Z _ _ (S.nil ?_); exact k' b hb)) : semL P T n ds (o :: r) K s σ := h e _ k
theorem D.sp {x : Bool} {s1 : Bool → St} (e : A) (k : ∀ b, x = b → semD P T n ops ds q K (s1 b) σ') (h : A → ∀ K' : St → Hp → Prop, (∀ b, x = b → K' (s1 b) σ') → semD P T n ops ds [(i, kk)] K' s σ := by
    intro e K' k'
    first
      | (refine D.g rfl (by first | exact True.intro | rfl | (simp only [stC, ze, simprocAttr, e]; first | done | rfl)) rfl rfl fun Y Z => ?_; simp only [zz, tt, reduceIte, Nat.reduceEqDiff, Nat.reduceLT, Nat.reduceLeDiff, Nat.reduceAdd, reduceCtorEq, Nat.reduceMul, e]; refine S.bool fun b hb => ?_; refine Z _ _ (D.nil ?_); exact k' b hb)
      | (refine D.y rfl (by first | exact True.intro | rfl | (simp only [stC, ze, simprocAttr, e]; first | done | rfl)) rfl rfl rfl rfl fun Y Z => ?_; simp only [zz, tt, reduceIte, Nat.reduceEqDiff, Nat.reduceLT, Nat.reduceLeDiff, Nat.reduceAdd, reduceCtorEq, Nat.reduceMul, e]; refine S.bool fun b hb => ?_; refine Z _ _ (D.nil ?_); exact k' b hb)) : semD P T n ops ds ((i, kk) :: q) K s σ := h e _ k
theorem T.sp {x : Bool} {s1 : Bool → St} (e : A) (k : ∀ b, x = b → semT P T n ops ds qt K (s1 b) σ') (h : A → ∀ K' : St → Hp → Prop, (∀ b, x = b → K' (s1 b) σ') → semD P T n ops ds [(i, kk)] K' s σ := by
    intro e K' k'
    first
      | (refine D.g rfl (by first | exact True.intro | rfl | (simp only [stC, ze, simprocAttr, e]; first | done | rfl)) rfl rfl fun Y Z => ?_; simp only [zz, tt, reduceIte, Nat.reduceEqDiff, Nat.reduceLT, Nat.reduceLeDiff, Nat.reduceAdd, reduceCtorEq, Nat.reduceMul, e]; refine S.bool fun b hb => ?_; refine Z _ _ (D.nil ?_); exact k' b hb)
      | (refine D.y rfl (by first | exact True.intro | rfl | (simp only [stC, ze, simprocAttr, e]; first | done | rfl)) rfl rfl rfl rfl fun Y Z => ?_; simp only [zz, tt, reduceIte, Nat.reduceEqDiff, Nat.reduceLT, Nat.reduceLeDiff, Nat.reduceAdd, reduceCtorEq, Nat.reduceMul, e]; refine S.bool fun b hb => ?_; refine Z _ _ (D.nil ?_); exact k' b hb)) : semT P T n ops ds (.st i kk qt) K s σ := h e _ k
theorem T.onf (e : A) (k : semT P T n ops ds qt K s' σ') (h : A → ∀ K' : St → Hp → Prop, K' s' σ' → semD P T n ops ds [(i, kk)] K' s σ := by
    intro e K' k'
    first
      | (refine D.g rfl (by first | exact True.intro | rfl | (simp only [stC, ze, simprocAttr, e]; first | done | rfl)) rfl rfl fun Y Z => ?_; simp only [zz, tt, reduceIte, Nat.reduceEqDiff, Nat.reduceLT, Nat.reduceLeDiff, Nat.reduceAdd, reduceCtorEq, Nat.reduceMul, Nat.reduceBEq, Int.reduceLE, Int.reduceLT, e]; refine Z _ _ (D.nil ?_); exact k')
      | (refine D.y rfl (by first | exact True.intro | rfl | (simp only [stC, ze, simprocAttr, e]; first | done | rfl)) rfl rfl rfl rfl fun Y Z => ?_; simp only [zz, tt, reduceIte, Nat.reduceEqDiff, Nat.reduceLT, Nat.reduceLeDiff, Nat.reduceAdd, reduceCtorEq, Nat.reduceMul, Nat.reduceBEq, Int.reduceLE, Int.reduceLT, e]; refine Z _ _ (D.nil ?_); exact k')
      | ((first | refine D.x rfl (by first | (intro h; cases h; done) | (intro _; rfl)) rfl rfl rfl rfl fun Y Z => ?_ | refine D.u rfl (by first | (intro h; cases h; done) | (intro _; rfl)) rfl rfl rfl rfl fun Y Z => ?_); simp only [ze, reduceIte, Nat.reduceEqDiff, Nat.reduceLT, Nat.reduceLeDiff, Nat.reduceAdd, reduceCtorEq, Nat.reduceMul, Nat.reduceBEq, Int.reduceLE, Int.reduceLT]; refine Z _ _ (D.nil ?_); exact k')) : semT P T n ops ds (.st i kk qt) K s σ := h e _ k
theorem T.sq {x : Bool} {s1 : Bool → St} (e : A) (k : ∀ b, x = b → semT P T n ops ds qt K (s1 b) σ') (h : A → ∀ K' : St → Hp → Prop, (∀ b, x = b → K' (s1 b) σ') → semD P T n ops ds [(i, kk)] K' s σ := by
    intro e K' k'
    first
      | (refine D.g rfl (by first | exact True.intro | rfl | (simp only [stC, ze, simprocAttr, e]; first | done | rfl)) rfl rfl fun Y Z => ?_; simp only [zz, tt, reduceIte, Nat.reduceEqDiff, Nat.reduceLT, Nat.reduceLeDiff, Nat.reduceAdd, reduceCtorEq, Nat.reduceMul, Nat.reduceBEq, Int.reduceLE, Int.reduceLT, e]; refine S.bool fun b hb => ?_; refine Z _ _ (D.nil ?_); exact k' b hb)
      | (refine D.y rfl (by first | exact True.intro | rfl | (simp only [stC, ze, simprocAttr, e]; first | done | rfl)) rfl rfl rfl rfl fun Y Z => ?_; simp only [zz, tt, reduceIte, Nat.reduceEqDiff, Nat.reduceLT, Nat.reduceLeDiff, Nat.reduceAdd, reduceCtorEq, Nat.reduceMul, Nat.reduceBEq, Int.reduceLE, Int.reduceLT, e]; refine S.bool fun b hb => ?_; refine Z _ _ (D.nil ?_); exact k' b hb)) : semT P T n ops ds (.st i kk qt) K s σ := h e _ k
end
theorem mix1 : Tryz.prog.follows .mixedOrders = true := by kernel_rfl
section
variable {n id : Nat} {s : St} {σ : Hp} {l : List Oper} {Q : Exit → St → Hp → Prop} [Mode]
theorem AW.dw (sched : List (Nat × Nat)) (h : semD Tryz.prog { sd := fun _ => false } n l (l.map (·.dst)) sched (fun s σ => Q .normal s σ) s σ) (hlen : sched.length = l.length := by rfl) (hs : Region.noSelect l.toArray = true := by kernel_rfl)
    (hB : schedB Tryz.prog l.toArray sched true (Array.replicate l.length false) = true := by kernel_rfl) : AW Tryz.prog n (.region id l.toArray true) Q s σ := AW.draw (fun _ _ h => by cases h) mix1 sched hlen hs hB h
theorem AW.dv (T : Tab) (sched : List (Nat × Nat)) (h : semD Tryz.prog T n l (l.map (·.dst)) sched (fun s σ => Q .normal s σ) s σ) (hT : T.ok Tryz.prog := by exact fun _ _ h => by cases h) (hlen : sched.length = l.length := by rfl) (hs : Region.noSelect l.toArray = true := by kernel_rfl)
    (hB : schedB Tryz.prog l.toArray sched true (Array.replicate l.length false) = true := by kernel_rfl) : AW Tryz.prog n (.region id l.toArray true) Q s σ := AW.draw hT mix1 sched hlen hs hB h
theorem AW.dT (T : Tab) (t : Tr) (h : semT Tryz.prog T n l (l.map (·.dst)) t (fun s σ => Q .normal s σ) s σ) (hT : T.ok Tryz.prog := by exact fun _ _ h => by cases h) (hlen : t.len = l.length := by rfl) (hs : Region.noSelect l.toArray = true := by kernel_rfl)
    (hB : schedF Tryz.prog l t true (List.replicate l.length false) = true := by kernel_rfl) : AW Tryz.prog n (.region id l.toArray true) Q s σ := AW.drawT hT mix1 t hlen hs hB h
end
theorem nope {a b : Bool} {C : Prop} (h : a = b) (k : a = b → False := by
    intro h
    first | exact Bool.noConfusion h | (have h := of_decide_eq_true h; omega) | (have h := of_decide_eq_false h; omega)) : C := (k h).elim
def bl := And.intro @beq_eq_false_iff_ne.{0} (And.intro @decide_eq_true_eq (And.intro @decide_eq_false_iff_not (And.intro @beq_iff_eq.{0} (And.intro @ne_eq.{1} (And.intro @Bool.not_eq_true' (And.intro @Bool.not_eq_false' (And.intro @bne_iff_ne.{0} @bne_eq_false_iff_eq.{0})))))))
theorem shut {C : Prop} (h : C := by
    first | rfl | omega | ((rw [Bool.eq_iff_iff]; simp only [bl, Bool.false_or, Bool.true_or, Bool.or_false, Bool.or_true, Bool.false_and, Bool.and_false, Bool.true_and, Bool.and_true, Bool.not_true, Bool.not_false, Bool.or_eq_false_iff, Bool.and_eq_false_iff, Bool.or_eq_true, Bool.and_eq_true, Bool.false_eq_true, Bool.true_eq_false, true_iff, iff_true, false_iff, iff_false]) <;> omega)) : C := h
end Go.Abs.M
namespace Go.Abs.M
open Go Go.Abs Go.Proofs
theorem sz3 : szT Tryz.prog 3 = 1 := by kernel_rfl
theorem by3 : Program.bytesOf Tryz.prog 3 = 8 := by kernel_rfl
theorem by41 : Program.bytesOf Tryz.prog 41 = 104 := by kernel_rfl
theorem by47 : Program.bytesOf Tryz.prog 47 = 136 := by kernel_rfl
theorem by48 : Program.bytesOf Tryz.prog 48 = 24 := by kernel_rfl
end Go.Abs.M
namespace Go.Abs.M
open Go Go.Abs Go.Proofs
variable [Mode]
set_option maxRecDepth 20000
def letter (c : UInt8) : Bool := decide (c.toNat = 95 ∨ (97 ≤ c.toNat ∧ c.toNat ≤ 122) ∨ (65 ≤ c.toNat ∧ c.toNat ≤ 90))
def nameC (i : Nat) (c : UInt8) : Bool := letter c || decide (i ≠ 0 ∧ 48 ≤ c.toNat ∧ c.toNat ≤ 57)
theorem getD_map {α : Type} {f : α → List V} {l : List α} {i : Nat} (h : i < l.length) : (l.map f).getD i [] = f l[i] := by simp [List.getD, h]
def nameL : Nat → List UInt8 → Bool
  | _, [] => true
  | i, c :: l => nameC i c && nameL (i + 1) l
def isName (s : ByteArray) : Bool := nameL 0 s.data.toList && s.size != 0 && s.size ≤ 32
theorem name_spec (str : ByteArray) (hn : str.size < 4611686018427387904) : PCalls Tryz.prog 68 [.c (.string str)] (fun v => v = .c (.bool (isName str))) := by
  refine PCalls.intro Tryz.call68 Tryz.func68 rfl Tryz.ntmps68 Tryz.results68 (by simp) ?_
  refine AW.sr trivial ?_
  refine AW.seq_k fun K2 h2 => ?_
  refine AW.sr trivial ?_
  refine AW.block (AW.loop (fun m s σ => σ = Hp.empty ∧ ∃ i : Nat, m + i = str.size ∧ s.t 0 = .c (.string str) ∧ s.t 7 = .sl (str.data.toList.map encU8) ∧ s.t 8 = .c (.int .i64 str.size) ∧ s.t 9 = .c (.int .i64 i) ∧ nameL 0 str.data.toList = nameL i (str.data.toList.drop i)) str.size ?_ ?_)
  · refine ⟨rfl, 0, by simp, ?_⟩
    simp only [zs, simprocAttr]
    exact ⟨by simp, by simp⟩
  rintro m s σ ⟨rfl, i, hm, e0, e7, e8, e9, hp⟩
  all_goals refine AW.sr (J2 e8 e9) ?_
  refine AW.seq_k fun K5 h5 => ?_
  refine AW.cond (b := decide (i < str.size)) (by simp [ev]) (fun hc => AW.skip ?_) (fun hc => AW.exit ?_)
  · simp only [zs, simprocAttr]
    all_goals apply_assumption
    have hi : i < str.size := by simpa using hc
    have hil : i < str.data.toList.length := by rw [Array.length_toList]; exact hi
    have hi2 : i < str.data.size := hi
    have hg := getD_map (f := encU8) hil
    generalize hcc : str.data.toList[i] = c at hg
    refine AW.seq_k fun K6 h6 => ?_
    refine AW.block ?_
    refine AW.sr (J7 e9 e7 hil hi2 hg @encU8.eq_1 @List.length_singleton.{0}) ?_
    refine AW.seq_j (fun s' σ' => σ' = Hp.empty ∧ s'.t 0 = s.t 0 ∧ s'.t 7 = s.t 7 ∧ s'.t 8 = s.t 8 ∧ s'.t 9 = s.t 9 ∧ s'.t 3 = .c (.int .i64 i) ∧ s'.t 4 = .c (.int .u8 c.toNat) ∧ s'.t 5 = .c (.bool (letter c))) ?_ ?_
    · clear hp
      refine AW.reg0 ?_
      refine S.one trivial ?_
      (refine S.sp trivial fun b a15 => ?_; cases b <;> (try exact nope a15))
      all_goals iterate 2 refine S.one trivial ?_
      all_goals (first | (refine S.sp trivial fun b a18 => ?_; cases b <;> (try exact nope a18)) | ((first | refine S.x rfl rfl rfl rfl fun Y Z => ?_ | refine S.u rfl rfl rfl rfl fun Y Z => ?_); simp only [ze, simprocAttr, -Int.reduceNatCast', -Int.reduceToNat]; refine Z _ _ ?_; clear Z Y))
      all_goals iterate 2 refine S.one trivial ?_
      all_goals (first | (refine S.sp trivial fun b a21 => ?_; cases b <;> (try exact nope a21)) | ((first | refine S.x rfl rfl rfl rfl fun Y Z => ?_ | refine S.u rfl rfl rfl rfl fun Y Z => ?_); simp only [ze, simprocAttr, -Int.reduceNatCast', -Int.reduceToNat]; refine Z _ _ ?_; clear Z Y))
      all_goals iterate 4 refine S.one trivial ?_
      all_goals (first | (refine S.sp trivial fun b a26 => ?_; cases b <;> (try exact nope a26)) | ((first | refine S.x rfl rfl rfl rfl fun Y Z => ?_ | refine S.u rfl rfl rfl rfl fun Y Z => ?_); simp only [ze, simprocAttr, -Int.reduceNatCast', -Int.reduceToNat]; refine Z _ _ ?_; clear Z Y))
      all_goals iterate 6 refine S.one trivial ?_
      all_goals refine S.nil ?_
      all_goals simp only [ze, simprocAttr]
      all_goals (try simp only [bl] at *)
      all_goals (try simp only [V.c.injEq, Value.bool.injEq, Value.int.injEq, true_and, letter])
      all_goals exact shut
    rintro s1 σ1 ⟨rfl, f0, f7, f8, f9, f3, f4, f5⟩
    rw [e0] at f0; rw [e7] at f7; rw [e8] at f8; rw [e9] at f9
    refine AW.seq_j (fun s' σ' => σ' = Hp.empty ∧ s'.t 0 = s1.t 0 ∧ s'.t 7 = s1.t 7 ∧ s'.t 8 = s1.t 8 ∧ s'.t 9 = s1.t 9 ∧ s'.t 45 = .c (.bool (!nameC i c))) ?_ ?_
    · clear hp
      generalize hlc : letter c = lc at *
      cases lc
      all_goals refine AW.reg0 ?_
      all_goals iterate 4 refine S.one (J3 f3 f4 f5) ?_
      all_goals (first | (refine S.sp (J3 f3 f4 f5) fun b a36 => ?_; cases b <;> (try exact nope a36)) | ((first | refine S.x rfl rfl rfl rfl fun Y Z => ?_ | refine S.u rfl rfl rfl rfl fun Y Z => ?_); simp only [ze, simprocAttr, -Int.reduceNatCast', -Int.reduceToNat]; refine Z _ _ ?_; clear Z Y))
      all_goals iterate 2 refine S.one (J3 f3 f4 f5) ?_
      all_goals (first | (refine S.sp (J3 f3 f4 f5) fun b a39 => ?_; cases b <;> (try exact nope a39)) | ((first | refine S.x rfl rfl rfl rfl fun Y Z => ?_ | refine S.u rfl rfl rfl rfl fun Y Z => ?_); simp only [ze, simprocAttr, -Int.reduceNatCast', -Int.reduceToNat]; refine Z _ _ ?_; clear Z Y))
      all_goals iterate 6 refine S.one (J3 f3 f4 f5) ?_
      all_goals refine S.nil ?_
      all_goals simp only [ze, simprocAttr, f3, f4, f5]
      all_goals (try simp only [bl] at *)
      all_goals (try simp only [V.c.injEq, Value.bool.injEq, Value.int.injEq, true_and, nameC, hlc])
      all_goals exact shut
    rintro s2 σ2 ⟨rfl, g0, g7, g8, g9, g45⟩
    rw [f0] at g0; rw [f7] at g7; rw [f8] at g8; rw [f9] at g9
    have hd : str.data.toList.drop i = c :: str.data.toList.drop (i + 1) := by rw [← hcc]; exact List.drop_eq_getElem_cons hil
    rw [hd] at hp
    refine AW.cond (b := !nameC i c) g45 (fun ht => ?_) (fun hf => AW.skip ?_)
    · refine AW.sr trivial ?_
      refine AW.ret ?_
      simp only [zs, simprocAttr]
      have hx : nameC i c = false := by simpa using ht
      simp [isName, hp, nameL, hx]
    · simp only [zs, simprocAttr]
      all_goals apply_assumption
      have hw : IntKind.i64.wrap ((i : Int) + 1) = ((i + 1 : Nat) : Int) := by rw [wrap_small _ (by omega) (by omega)]; rfl
      refine AW.reg0 (S.rn (J2 g9 hw) ?_)
      simp only [ze, simprocAttr, g9, hw]
      have hx : nameC i c = true := by simpa using hf
      refine ⟨m - 1, by omega, i + 1, by omega, g0, g7, g8, ?_⟩
      rw [hp, nameL, hx, Bool.true_and]; exact ⟨rfl, rfl⟩
  · simp only [zs, simprocAttr]
    all_goals apply_assumption
    have hi : i = str.size := by have : ¬ i < str.size := by simpa using hc
                                 omega
    have hnil : str.data.toList.drop i = [] := List.drop_of_length_le (by rw [hi, Array.length_toList]; exact Nat.le_refl _)
    rw [hnil] at hp
    refine AW.seq_k fun K9 h9 => ?_
    refine AW.reg0 ?_
    refine S.one e0 ?_
    (refine S.sp e0 fun b a48 => ?_; cases b <;> (try exact nope a48))
    all_goals iterate 6 refine S.one e0 ?_
    all_goals (refine S.nil ?_; simp only [ze, simprocAttr, e0]; apply_assumption)
    all_goals refine AW.ret ?_
    all_goals simp only [zs, simprocAttr]
    · have h1 : str.size = 0 := by simpa using a48
      simp [isName, h1]
    · have h1 : str.size ≠ 0 := by simpa using a48
      simp only [V.c.injEq, Value.bool.injEq, isName, hp, nameL]
      have h2 : (str.size != 0) = true := by simpa using h1
      rw [h2, Bool.true_and, Bool.true_and, decide_eq_decide]
      omega
theorem mixedO : Tryz.prog.follows .mixedOrders = true := by kernel_rfl
structure Val where
  kind : Int
  n : Int
  s : ByteArray
structure Attr where
  name : ByteArray
  v : Val
def encVal (v : Val) : List V := [.c (.int .i64 v.kind), .c (.int .i64 v.n), .c (.string v.s)]
def encAttr (a : Attr) : List V := [.c (.string a.name), .c (.int .i64 a.v.kind), .c (.int .i64 a.v.n), .c (.string a.v.s)]
def valOk (v : Val) : Bool := decide (v.kind = 1 ∧ v.s.size = 0 ∨ v.kind = 2 ∧ v.n = 0 ∧ v.s.size ≤ 64)
def valErr (v : Val) : Int := if valOk v then 0 else 30
theorem check_val (v : Val) : PCalls Tryz.prog 132 [.agg (encVal v)] (fun r => r = .c (.int .i64 (valErr v))) := by
 refine PCalls.intro Tryz.call132 Tryz.func132 rfl Tryz.ntmps132 Tryz.results132 (by simp) ?_
 refine AW.sr @encVal.eq_1 ?_
 refine AW.seq_k fun K2 h2 => ?_
 refine AW.seq_j (fun s' σ' => σ' = Hp.empty ∧ s'.t 26 = .c (.bool (valOk v))) ?_ ?_
 ·skip
  refine AW.reg0 ?_
  iterate 2 refine S.one trivial ?_
  (refine S.sp trivial fun b a5 => ?_; cases b <;> (try exact nope a5))
  all_goals iterate 3 refine S.one trivial ?_
  all_goals (first | (refine S.sp trivial fun b a9 => ?_; cases b <;> (try exact nope a9)) | ((first | refine S.x rfl rfl rfl rfl fun Y Z => ?_ | refine S.u rfl rfl rfl rfl fun Y Z => ?_); simp only [ze, simprocAttr, -Int.reduceNatCast', -Int.reduceToNat]; refine Z _ _ ?_; clear Z Y))
  all_goals iterate 4 refine S.one trivial ?_
  all_goals (first | (refine S.sp trivial fun b a14 => ?_; cases b <;> (try exact nope a14)) | ((first | refine S.x rfl rfl rfl rfl fun Y Z => ?_ | refine S.u rfl rfl rfl rfl fun Y Z => ?_); simp only [ze, simprocAttr, -Int.reduceNatCast', -Int.reduceToNat]; refine Z _ _ ?_; clear Z Y))
  all_goals iterate 3 refine S.one trivial ?_
  all_goals (first | (refine S.sp trivial fun b a18 => ?_; cases b <;> (try exact nope a18)) | ((first | refine S.x rfl rfl rfl rfl fun Y Z => ?_ | refine S.u rfl rfl rfl rfl fun Y Z => ?_); simp only [ze, simprocAttr, -Int.reduceNatCast', -Int.reduceToNat]; refine Z _ _ ?_; clear Z Y))
  all_goals iterate 8 refine S.one trivial ?_
  all_goals refine S.nil ?_
  all_goals simp only [ze, simprocAttr]
  all_goals (try simp only [bl] at *)
  all_goals (try simp only [V.c.injEq, Value.bool.injEq, Value.int.injEq, true_and, valOk])
  all_goals exact shut
 rintro s σ ⟨rfl, e26⟩
 refine AW.cond (b := valOk v) e26 (fun hc => ?_) (fun hc => AW.skip ?_)
 ·refine AW.sr trivial ?_
  refine AW.ret ?_
  simp only [zs, simprocAttr]
  simp [valErr, hc]
 ·simp only [zs, simprocAttr]
  all_goals apply_assumption
  refine AW.sr trivial ?_
  refine AW.ret ?_
  simp only [zs, simprocAttr]
  simp [valErr, hc]
structure Ev where
  src : Int
  seq : Int
  time : Int
  type : ByteArray
  attrs : List Attr
def leS (a b : ByteArray) : Bool := Op.bytesLess a.toList b.toList || a.toList == b.toList
def okA (l : List Attr) : Prop := ∀ a ∈ l, a.name.size < 4611686018427387904 ∧ a.v.s.size < 4611686018427387904
structure okE (e : Ev) : Prop where
  type : e.type.size < 4611686018427387904
  len : e.attrs.length < 4611686018427387904
  attrs : okA e.attrs
theorem eqA100 (d : Nat) (w : World) (x0 y0 x1 y1 : Int) :
  (Op.equalIn (d + 2) 100 (.agg #[.int .i64 x0, .int .i64 x1]) (.agg #[.int .i64 y0, .int .i64 y1])).run Tryz.prog w = .ok (x0 == y0 && (x1 == y1)) w := by
 refine eqF_of Tryz.underlying100 (by kernel_rfl) ?_
 refine eqF_more (by rfl) (by go_simp; rfl) (by go_simp; rfl) (by go_simp) ?_
 exact eqF_one (by rfl) (by go_simp; rfl) (by go_simp; rfl) (by go_simp)
theorem eqA43 (d : Nat) (w : World) (x0 y0 : Int) (x1 y1 : Int) (x2 y2 : ByteArray) :
  (Op.equalIn (d + 2) 43 (.agg #[.int .i64 x0, .int .i64 x1, .string x2]) (.agg #[.int .i64 y0, .int .i64 y1, .string y2])).run Tryz.prog w = .ok (x0 == y0 && (x1 == y1 && (x2.toList == y2.toList))) w := by
 refine eqF_of Tryz.underlying43 (by kernel_rfl) ?_
 refine eqF_more (by rfl) (by go_simp; rfl) (by go_simp; rfl) (by go_simp) ?_
 refine eqF_more (by rfl) (by go_simp; rfl) (by go_simp; rfl) (by go_simp) ?_
 exact eqF_one (by rfl) (by go_simp; rfl) (by go_simp; rfl) (by go_simp)
theorem eqA176 (d : Nat) (w : World) (x0 y0 : ByteArray) (x1 y1 : Int) (x2 y2 : Int) (x3 y3 : ByteArray) :
  (Op.equalIn (d + 3) 176 (.agg #[.string x0, .int .i64 x1, .int .i64 x2, .string x3]) (.agg #[.string y0, .int .i64 y1, .int .i64 y2, .string y3])).run Tryz.prog w = .ok (x0.toList == y0.toList && ((x1 == y1 && (x2 == y2 && (x3.toList == y3.toList))))) w := by
 refine eqF_of Tryz.underlying176 (by kernel_rfl) ?_
 refine eqF_more (by rfl) (by go_simp; rfl) (by go_simp; rfl) (by go_simp) ?_
 exact eqF_one (by rfl) (by go_simp) (by go_simp) (eqA43 (d + 0) w _ _ _ _ _ _)
theorem fitI {ks : List SK} {xs : List Value} (h : fitsAll (.int .i64 :: ks) xs = true) : ∃ (a : Int) (ys : List Value), xs = .int .i64 a :: ys ∧ fitsAll ks ys = true := by
  match xs, h with
  | .int k a :: ys, h =>
    simp only [fitsAll, SK.fits, Bool.and_eq_true, beq_iff_eq] at h
    obtain ⟨h1, h2⟩ := h
    exact ⟨a, ys, by rw [← h1], h2⟩
theorem fitS {ks : List SK} {xs : List Value} (h : fitsAll (.str :: ks) xs = true) : ∃ (a : ByteArray) (ys : List Value), xs = .string a :: ys ∧ fitsAll ks ys = true := by
  match xs, h with
  | .string a :: ys, h =>
    simp only [fitsAll, SK.fits, Bool.and_eq_true, true_and] at h
    exact ⟨a, ys, rfl, h⟩
theorem fit0 {xs : List Value} (h : fitsAll [] xs = true) : xs = [] := by
 match xs, h with
 | [], _ => rfl
theorem eqt100 : EqT Tryz.prog 100 [.int .i64, .int .i64] := by
 refine ⟨fun op x y xs ys w => run_guard_agg (by kernel_rfl) xs ys w, fun xs ys hx hy w => ?_⟩
 obtain ⟨a0, xs1, rfl, p1⟩ := fitI hx
 obtain ⟨a1, xs2, rfl, p2⟩ := fitI p1
 obtain ⟨b0, ys3, rfl, q3⟩ := fitI hy
 obtain ⟨b1, ys4, rfl, q4⟩ := fitI q3
 rw [fit0 p2, fit0 q4]
 have := eqA100 9998 w a0 b0 a1 b1
 simpa [Op.equal, Op.maxDepth, cellsEq, cellEq] using this
theorem eqt176 : EqT Tryz.prog 176 [.str, .int .i64, .int .i64, .str] := by
 refine ⟨fun op x y xs ys w => run_guard_agg (by kernel_rfl) xs ys w, fun xs ys hx hy w => ?_⟩
 obtain ⟨a0, xs1, rfl, p1⟩ := fitS hx
 obtain ⟨a1, xs2, rfl, p2⟩ := fitI p1
 obtain ⟨a2, xs3, rfl, p3⟩ := fitI p2
 obtain ⟨a3, xs4, rfl, p4⟩ := fitS p3
 obtain ⟨b0, ys5, rfl, q5⟩ := fitS hy
 obtain ⟨b1, ys6, rfl, q6⟩ := fitI q5
 obtain ⟨b2, ys7, rfl, q7⟩ := fitI q6
 obtain ⟨b3, ys8, rfl, q8⟩ := fitS q7
 rw [fit0 p4, fit0 q8]
 have := eqA176 9997 w a0 b0 a1 b1 a2 b2 a3 b3
 simpa [Op.equal, Op.maxDepth, cellsEq, cellEq] using this
theorem eqt43 : EqT Tryz.prog 43 [.int .i64, .int .i64, .str] := by
 refine ⟨fun op x y xs ys w => run_guard_agg (by kernel_rfl) xs ys w, fun xs ys hx hy w => ?_⟩
 obtain ⟨a0, xs1, rfl, p1⟩ := fitI hx
 obtain ⟨a1, xs2, rfl, p2⟩ := fitI p1
 obtain ⟨a2, xs3, rfl, p3⟩ := fitS p2
 obtain ⟨b0, ys3, rfl, q3⟩ := fitI hy
 obtain ⟨b1, ys4, rfl, q4⟩ := fitI q3
 obtain ⟨b2, ys5, rfl, q5⟩ := fitS q4
 rw [fit0 p3, fit0 q5]
 have := eqA43 9998 w a0 b0 a1 b1 a2 b2
 simpa [Op.equal, Op.maxDepth, cellsEq, cellEq] using this
def eqTab (t : TypeId) : Option (List SK) := if t = 100 then some [.int .i64, .int .i64] else if t = 176 then some [.str, .int .i64, .int .i64, .str] else if t = 43 then some [.int .i64, .int .i64, .str] else none
theorem eqTab_ok : ∀ t ks, eqTab t = some ks → EqT Tryz.prog t ks := fun t ks h => by
 unfold eqTab at h
 split at h
 ·rename_i e; subst e; injection h with h; subst h; exact eqt100
 ·split at h
  ·rename_i e; subst e; injection h with h; subst h; exact eqt176
  ·split at h
   ·rename_i e; subst e; injection h with h; subst h; exact eqt43
   ·cases h
theorem eqk43 : eqTab 43 = some [.int .i64, .int .i64, .str] := rfl
structure Bd where
  var : ByteArray
  ev : Ev
def encBd (b : Bd) : List V := [.c (.string b.var), .c (.int .i64 b.ev.src), .c (.int .i64 b.ev.seq), .c (.int .i64 b.ev.time), .c (.string b.ev.type), .sl (b.ev.attrs.map encAttr)]
structure okB (b : Bd) : Prop where
  var : b.var.size < 4611686018427387904
  ev : okE b.ev
def okP (l : List Bd) : Prop := ∀ b ∈ l, okB b
end Go.Abs.M
namespace Go.Abs.M
open Go Go.Abs
variable [Mode]
structure Opd where
  var : ByteArray
  attr : ByteArray
  v : Val
structure Cnd where
  l : Opd
  rel : Int
  r : Opd
inductive Nd where
  | mk (kind : Int) (var type : ByteArray) (tests : List Cnd) (kids : List Nd)
instance : Inhabited Nd := ⟨.mk 0 ⟨#[]⟩ ⟨#[]⟩ [] []⟩
def Nd.kind : Nd → Int | .mk k _ _ _ _ => k
def Nd.var : Nd → ByteArray | .mk _ v _ _ _ => v
def Nd.type : Nd → ByteArray | .mk _ _ t _ _ => t
def Nd.tests : Nd → List Cnd | .mk _ _ _ ts _ => ts
def Nd.kids : Nd → List Nd | .mk _ _ _ _ ks => ks
mutual
def Nd.para {α : Type} (f : Nd → List α → α) : Nd → α
  | .mk k v t ts ks => f (.mk k v t ts ks) (Nd.paraL f ks)
def Nd.paraL {α : Type} (f : Nd → List α → α) : List Nd → List α
  | [] => []
  | x :: xs => Nd.para f x :: Nd.paraL f xs
end
theorem Nd.paraL_map {α : Type} (f : Nd → List α → α) : ∀ ks : List Nd, Nd.paraL f ks = ks.map (Nd.para f)
 | [] => by rw [Nd.paraL]; rfl
 | x :: xs => by rw [Nd.paraL, Nd.paraL_map f xs]; rfl
theorem Nd.para_eq {α : Type} (f : Nd → List α → α) (n : Nd) : n.para f = f n (n.kids.map (Nd.para f)) := by
 cases n
 rw [Nd.para, Nd.paraL_map]; rfl
theorem Nd.ind {P : Nd → Prop} (h : ∀ n : Nd, (∀ x ∈ n.kids, P x) → P n) (n : Nd) : P n :=
 Nd.rec (motive_1 := P) (motive_2 := fun ks => ∀ x ∈ ks, P x) (fun k v t ts ks ih => h (.mk k v t ts ks) ih) (fun x hx => by cases hx) (fun x xs h1 h2 y hy => by
  rcases List.mem_cons.1 hy with rfl | hy
  ·exact h1
  ·exact h2 y hy) n
def encO (o : Opd) : List V := [.c (.string o.var), .c (.string o.attr), .c (.int .i64 o.v.kind), .c (.int .i64 o.v.n), .c (.string o.v.s)]
def encC (c : Cnd) : List V := encO c.l ++ [.c (.int .i64 c.rel)] ++ encO c.r
def encNd (n : Nd) : List V := n.para fun n l => [.c (.int .i64 n.kind), .c (.string n.var), .c (.string n.type), .sl (n.tests.map encC), .sl l]
theorem encNd_eq (n : Nd) : encNd n = [.c (.int .i64 n.kind), .c (.string n.var), .c (.string n.type), .sl (n.tests.map encC), .sl (n.kids.map encNd)] := Nd.para_eq _ n
theorem encNd_len (n : Nd) : (encNd n).length = 5 := by rw [encNd_eq]; rfl
theorem encNd_take (n : Nd) : (encNd n).take 5 = encNd n := List.take_of_length_le (by rw [encNd_len]; exact Nat.le_refl _)
theorem encNd_drop (n : Nd) : (encNd n).drop 5 = [] := List.drop_of_length_le (by rw [encNd_len]; exact Nat.le_refl _)
theorem encNd_wk (n : Nd) : (encNd n).map wk1 = encNd n := by rw [encNd_eq]; rfl
theorem nd : (∀ n : Nd, (encNd n).length = 5) ∧ (∀ n : Nd, (encNd n).take 5 = encNd n) ∧ (∀ n : Nd, (encNd n).drop 5 = []) ∧ (∀ n : Nd, (encNd n).map wk1 = encNd n) := ⟨encNd_len, encNd_take, encNd_drop, encNd_wk⟩
theorem encC_len (c : Cnd) : (encC c).length = 11 := rfl
def Nd.size (n : Nd) : Nat := n.para fun _ l => 1 + l.sum
def Nd.terms (n : Nd) : Nat := n.para fun n l => if n.kids.length = 0 then 1 else l.sum
def Nd.deep (n : Nd) : Nat := n.para fun _ l => l.foldl max 0 + 1
def altS (l : List Nat) : Nat := l.foldl (fun s a => min (s + a) 65) 0
def altP (l : List Nat) : Nat := l.foldl (fun s a => min (s * a) 65) 1
def Nd.alts (n : Nd) : Nat := n.para fun n l => if n.kids.length = 0 then 1 else if n.kind = 4 then altS l else altP l
theorem Nd.size_eq (n : Nd) : n.size = 1 + (n.kids.map Nd.size).sum := Nd.para_eq _ n
theorem Nd.terms_eq (n : Nd) : n.terms = if n.kids.length = 0 then 1 else (n.kids.map Nd.terms).sum := Nd.para_eq _ n
theorem Nd.deep_eq (n : Nd) : n.deep = (n.kids.map Nd.deep).foldl max 0 + 1 := Nd.para_eq _ n
theorem Nd.alts_eq (n : Nd) : n.alts = if n.kids.length = 0 then 1 else if n.kind = 4 then altS (n.kids.map Nd.alts) else altP (n.kids.map Nd.alts) := Nd.para_eq _ n
theorem sum_mem {l : List Nat} {x : Nat} (h : x ∈ l) : x ≤ l.sum := by
  induction l with
  | nil => cases h
  | cons y l ih =>
    rcases List.mem_cons.1 h with rfl | h
    · simp
    · have := ih h; simp; omega
theorem Nd.size_kid {n x : Nd} (h : x ∈ n.kids) : x.size < n.size := by
 have := sum_mem (List.mem_map_of_mem (f := Nd.size) h)
 rw [Nd.size_eq n]; omega
theorem Nd.len_size (n : Nd) : n.kids.length < n.size := by
 rw [Nd.size_eq]
 have : ∀ ks : List Nd, ks.length ≤ (ks.map Nd.size).sum := fun ks => by
  induction ks with
  | nil => simp
  | cons x xs ih => have := Nd.size_eq x; simp; omega
 have := this n.kids; omega
theorem sum_le {f g : Nd → Nat} : ∀ {ks : List Nd}, (∀ x ∈ ks, f x ≤ g x) → (ks.map f).sum ≤ (ks.map g).sum
  | [], _ => Nat.le_refl _
  | x :: xs, h => by
    have h1 := h x List.mem_cons_self
    have h2 := sum_le (f := f) (g := g) (ks := xs) fun y hy => h y (List.mem_cons_of_mem _ hy)
    simp only [List.map_cons, List.sum_cons]; omega
theorem Nd.terms_size : ∀ n : Nd, n.terms ≤ n.size := Nd.ind fun n ih => by
 rw [Nd.terms_eq, Nd.size_eq]
 have := sum_le ih
 split <;> omega
theorem foldmax_le {l : List Nat} {b : Nat} (h : ∀ x ∈ l, x ≤ b) : ∀ a, a ≤ b → l.foldl max a ≤ b := by
 induction l with
 | nil => intro a ha; exact ha
 | cons x l ih => intro a ha; exact ih (fun y hy => h y (List.mem_cons_of_mem _ hy)) _ (Nat.max_le.2 ⟨ha, h x List.mem_cons_self⟩)
theorem Nd.deep_size : ∀ n : Nd, n.deep ≤ n.size := Nd.ind fun n ih => by
 rw [Nd.deep_eq]
 have hl : ∀ x ∈ n.kids.map Nd.deep, x ≤ n.size - 1 := fun x hx => by
  obtain ⟨y, hy, rfl⟩ := List.mem_map.1 hx
  have := ih y hy; have := Nd.size_kid hy; omega
 have := foldmax_le hl 0 (Nat.zero_le _)
 have := Nd.size_eq n
 omega
theorem altS_le (l : List Nat) : altS l ≤ 65 := by
 have : ∀ (l : List Nat) a, a ≤ 65 → l.foldl (fun s a => min (s + a) 65) a ≤ 65 := fun l => by
  induction l with
  | nil => intro a h; exact h
  | cons x l ih => intro a _; exact ih _ (Nat.min_le_right _ _)
 exact this l 0 (by omega)
theorem altP_le (l : List Nat) : altP l ≤ 65 := by
 have : ∀ (l : List Nat) a, a ≤ 65 → l.foldl (fun s a => min (s * a) 65) a ≤ 65 := fun l => by
  induction l with
  | nil => intro a h; exact h
  | cons x l ih => intro a _; exact ih _ (Nat.min_le_right _ _)
 exact this l 1 (by omega)
theorem Nd.alts_le (n : Nd) : n.alts ≤ 65 := by
 rw [Nd.alts_eq]
 split
 ·omega
 ·split
  ·exact altS_le _
  ·exact altP_le _
def Nd.small (n : Nd) : Prop := n.size ≤ 1048576
theorem Nd.small.kid {n x : Nd} (h : n.small) (hx : x ∈ n.kids) : x.small := Nat.le_trans (Nat.le_of_lt (Nd.size_kid hx)) h
theorem Nd.small.len {n : Nd} (h : n.small) : n.kids.length < 1048576 := Nat.lt_of_lt_of_le (Nd.len_size n) h
end Go.Abs.M
namespace Go.Abs.M
open Go Go.Abs Go.Proofs
variable [Mode]
set_option maxRecDepth 20000
theorem wsm {a : Nat} (h : a < 9223372036854775808) : IntKind.i64.wrap (a : Int) = (a : Int) := wrap_small _ (by omega) (by omega)
theorem wadd {a b : Nat} (h : a + b < 9223372036854775808) : IntKind.i64.wrap ((a : Int) + b) = ((a + b : Nat) : Int) := by rw [wrap_small _ (by omega) (by omega)]; rfl
theorem wadd1 {a : Nat} (h : a + 1 < 9223372036854775808) : IntKind.i64.wrap ((a : Int) + 1) = ((a + 1 : Nat) : Int) := wadd h
theorem maxI (a b : Nat) : (if a < b then (b : Int) else (a : Int)) = ((max a b : Nat) : Int) := by
 by_cases h : a < b
 ·rw [if_pos h, Nat.max_eq_right (by omega)]
 ·rw [if_neg h, Nat.max_eq_left (by omega)]
theorem fold_step {α β : Type} {f : α → β → α} {a : α} {l : List β} {i : Nat} {x : β} (h : l[i]? = some x) : (l.take (i + 1)).foldl f a = f ((l.take i).foldl f a) x := by
 rw [List.take_add_one, h, List.foldl_append]; rfl
theorem sum_step {l : List Nat} {i x : Nat} (h : l[i]? = some x) : (l.take (i + 1)).sum = (l.take i).sum + x := by
 rw [List.take_add_one, h, List.sum_append]; simp
theorem sum_take (l : List Nat) (i : Nat) : (l.take i).sum ≤ l.sum := by
 have := List.take_append_drop i l
 have h : (l.take i ++ l.drop i).sum = l.sum := by rw [this]
 rw [List.sum_append] at h; omega
theorem kid_get {n : Nd} {i : Nat} (h : i < n.kids.length) : ∃ x, n.kids[i]? = some x ∧ x ∈ n.kids ∧ (n.kids.map encNd).getD i [] = encNd x := ⟨n.kids[i], List.getElem?_eq_getElem h, List.getElem_mem h, getD_map h⟩
theorem deep_spec : ∀ n : Nd, n.small → PCalls Tryz.prog 108 [.agg (encNd n)] (fun v => v = .c (.int .i64 (n.deep : Nat))) := Nd.ind fun n ih hn => by
 have hl := hn.len
 have hds := n.deep_size
 have hn' : n.size ≤ 1048576 := hn
 rw [encNd_eq]
 refine PCalls.intro Tryz.call108 Tryz.func108 rfl Tryz.ntmps108 Tryz.results108 (by simp) ?_
 refine AW.sr trivial ?_
 refine AW.sr trivial ?_
 refine AW.seq_k fun K3 h3 => ?_
 refine AW.sr @List.length_map.{0,0} ?_
 refine AW.block ?_   -- 0
 refine AW.loop (fun m s σ => σ = Hp.empty ∧ ∃ i : Nat, m + i = n.kids.length ∧ s.t 7 = .sl (n.kids.map encNd) ∧ s.t 8 = .c (.int .i64 (n.kids.length : Nat)) ∧ s.t 9 = .c (.int .i64 (i : Nat)) ∧ s.t 3 = .c (.int .i64 (((n.kids.take i).map Nd.deep).foldl max 0 : Nat))) n.kids.length ?_ ?_
 ·refine ⟨rfl, 0, by simp, ?_⟩
  simp only [zs, simprocAttr]
  simp
 rintro m s σ ⟨rfl, i, hm, e7, e8, e9, e3⟩
 all_goals refine AW.sr (J2 e9 e8) ?_
 refine AW.seq_k fun K6 h6 => ?_
 refine AW.cond (b := decide (i < n.kids.length)) (by simp [ev]) (fun hc => ?_) (fun hc => ?_)
 ·have hi := of_decide_eq_true hc
  obtain ⟨x, hx, hxm, hg⟩ := kid_get hi
  have hw := wadd1 (a := i) (by omega)
  refine AW.skip ?_
  simp only [zs, simprocAttr]
  all_goals apply_assumption
  refine AW.seq_k fun K7 h7 => ?_
  refine AW.block ?_   -- 1
  refine AW.sr (J6 e7 e9 hi hg @nd @List.length_map.{0,0}) ?_
  refine AW.reg0 ?_
  iterate 2 refine S.one (J3 e3 @nd @maxI) ?_
  have q1q := J3 e3 @nd @maxI
  (refine S.g rfl rfl fun Y Z => ?_; simp only [zz, simprocAttr, -Int.reduceNatCast', -Int.reduceToNat, q1q]; refine PCalls.eqto (ih x hxm (hn.kid hxm)) ?_ <;> (refine Z _ _ ?_; clear Z Y))
  all_goals iterate 2 refine S.one q1q ?_
  all_goals (refine S.nil ?_; simp only [ze, simprocAttr, q1q]; apply_assumption)
  all_goals have q2q := J4 e7 e8 e9 hw
  all_goals refine AW.reg0 (S.rn q2q ?_)
  all_goals simp only [ze, simprocAttr, q2q]
  refine ⟨m - 1, by omega, i + 1, by omega, ?_⟩
  all_goals ((try and_intros) <;> first | rfl | assumption | (rw [List.map_take, List.map_take, fold_step (x := x.deep) (by rw [List.getElem?_map, hx]; rfl)]))
 ·have hi := of_decide_eq_false hc
  refine AW.exit ?_
  simp only [zs, simprocAttr]
  all_goals apply_assumption
  have hfd := n.deep_eq
  have hw := wadd1 (a := (n.kids.map Nd.deep).foldl max 0) (by omega)
  rw [List.take_of_length_le (by omega)] at e3
  refine AW.sr (J2 e3 hw) ?_
  refine AW.ret ?_
  simp only [zs, simprocAttr]
  rw [hfd]
theorem len0 (n : Nd) : ((n.kids.length : Int) == 0) = decide (n.kids.length = 0) := by
 by_cases h : n.kids.length = 0
 ·simp [h]
 ·have : ((n.kids.length : Int) == 0) = false := by simpa using h
  rw [this]; simp [h]
theorem minI (a : Nat) : (if (65 : Int) < (a : Int) then (65 : Int) else (a : Int)) = ((min a 65 : Nat) : Int) := by
 by_cases h : a ≤ 65
 ·rw [if_neg (by omega), Nat.min_eq_left h]
 ·rw [if_pos (by omega), Nat.min_eq_right (by omega)]; rfl
theorem terms_spec : ∀ n : Nd, n.small → PCalls Tryz.prog 109 [.agg (encNd n)] (fun v => v = .c (.int .i64 (n.terms : Nat))) := Nd.ind fun n ih hn => by
 have hl := hn.len
 have hds := n.terms_size
 have hn' : n.size ≤ 1048576 := hn
 have hte := n.terms_eq
 rw [encNd_eq]
 refine PCalls.intro Tryz.call109 Tryz.func109 rfl Tryz.ntmps109 Tryz.results109 (by simp) ?_
 refine AW.sr trivial ?_
 refine AW.seq_k fun K2 h2 => ?_
 refine AW.sr (J2 @List.length_map.{0,0} @len0) ?_
 refine AW.cond (b := decide (n.kids.length = 0)) (by simp [ev]) (fun hc => ?_) (fun hc => ?_)
 ·have hk0 := of_decide_eq_true hc
  refine AW.sr trivial ?_
  refine AW.ret ?_
  simp only [zs, simprocAttr]
  rw [hte, if_pos hk0]; rfl
 have hk0 := of_decide_eq_false hc
 rw [if_neg hk0] at hte
 refine AW.skip ?_
 all_goals simp only [zs, simprocAttr]
 all_goals apply_assumption
 all_goals refine AW.sr trivial ?_
 refine AW.seq_k fun K6 h6 => ?_
 all_goals refine AW.sr @List.length_map.{0,0} ?_
 refine AW.block ?_   -- 0
 refine AW.loop (fun m s σ => σ = Hp.empty ∧ ∃ i : Nat, m + i = n.kids.length ∧ s.t 11 = .sl (n.kids.map encNd) ∧ s.t 12 = .c (.int .i64 (n.kids.length : Nat)) ∧ s.t 13 = .c (.int .i64 (i : Nat)) ∧ s.t 3 = .c (.int .i64 (((n.kids.map Nd.terms).take i).sum : Nat))) n.kids.length ?_ ?_
 ·refine ⟨rfl, 0, by simp, ?_⟩
  simp only [zs, simprocAttr]
  all_goals ((try and_intros) <;> first | rfl | assumption | (simp))
 rintro m s σ ⟨rfl, i, hm, e7, e8, e9, e3⟩
 all_goals refine AW.sr (J2 e9 e8) ?_
 refine AW.seq_k fun K9 h9 => ?_
 refine AW.cond (b := decide (i < n.kids.length)) (by simp [ev]) (fun hc => ?_) (fun hc => ?_)
 ·have hi := of_decide_eq_true hc
  obtain ⟨x, hx, hxm, hg⟩ := kid_get hi
  have hw := wadd1 (a := i) (by omega)
  have hst := sum_step (l := n.kids.map Nd.terms) (i := i) (x := x.terms) (by rw [List.getElem?_map, hx]; rfl)
  have hsl : ((n.kids.map Nd.terms).take (i + 1)).sum ≤ (n.kids.map Nd.terms).sum := sum_take _ _
  have hw2 := wadd (a := ((n.kids.map Nd.terms).take i).sum) (b := x.terms) (by omega)
  refine AW.skip ?_
  simp only [zs, simprocAttr]
  all_goals apply_assumption
  refine AW.seq_k fun K10 h10 => ?_
  refine AW.block ?_   -- 1
  refine AW.sr (J6 e7 e9 hi hg @nd @List.length_map.{0,0}) ?_
  refine AW.reg0 ?_
  iterate 2 refine S.one (J3 e3 @nd hw2) ?_
  (refine S.g rfl rfl fun Y Z => ?_; simp only [zz, simprocAttr, -Int.reduceNatCast', -Int.reduceToNat, e3, nd, hw2]; refine PCalls.eqto (ih x hxm (hn.kid hxm)) ?_ <;> (refine Z _ _ ?_; clear Z Y))
  all_goals iterate 2 refine S.one (J3 e3 @nd hw2) ?_
  all_goals (refine S.nil ?_; simp only [ze, simprocAttr, e3, nd, hw2]; apply_assumption)
  all_goals have q1q := J4 e7 e8 e9 hw
  all_goals refine AW.reg0 (S.rn q1q ?_)
  all_goals simp only [ze, simprocAttr, q1q]
  refine ⟨m - 1, by omega, i + 1, by omega, ?_⟩
  all_goals ((try and_intros) <;> first | rfl | assumption | (rw [hst]))
 ·have hi := of_decide_eq_false hc
  refine AW.exit ?_
  simp only [zs, simprocAttr]
  all_goals apply_assumption
  rw [List.take_of_length_le (by rw [List.length_map]; omega)] at e3
  refine AW.sr e3 ?_
  refine AW.ret ?_
  simp only [zs, simprocAttr]
  rw [hte]
theorem alts_spec : ∀ n : Nd, n.kids.length < 1048576 ∧ n.small → PCalls Tryz.prog 111 [.agg (encNd n)] (fun v => v = .c (.int .i64 (n.alts : Nat))) := fun n h => h.2 |> fun hs => by
 clear h
 revert hs
 revert n
 refine Nd.ind fun n ih0 hn => ?_
 have ih : ∀ x ∈ n.kids, PCalls Tryz.prog 111 [.agg (encNd x)] (fun v => v = .c (.int .i64 (x.alts : Nat))) := fun x hx => ih0 x hx (hn.kid hx)
 have hl := hn.len
 have hte := n.alts_eq
 have hke : (n.kind == 4) = decide (n.kind = 4) := rfl
 rw [encNd_eq]
 refine PCalls.intro Tryz.call111 Tryz.func111 rfl Tryz.ntmps111 Tryz.results111 (by simp) ?_
 refine AW.sr trivial ?_
 refine AW.seq_k fun K2 h2 => ?_
 refine AW.sr (J2 @List.length_map.{0,0} @len0) ?_
 refine AW.cond (b := decide (n.kids.length = 0)) (by simp [ev]) (fun hc => ?_) (fun hc => ?_)
 ·have hk0 := of_decide_eq_true hc
  refine AW.sr trivial ?_
  refine AW.ret ?_
  simp only [zs, simprocAttr]
  rw [hte, if_pos hk0]; rfl
 have hk0 := of_decide_eq_false hc
 rw [if_neg hk0] at hte
 refine AW.skip ?_
 all_goals simp only [zs, simprocAttr]
 all_goals apply_assumption
 all_goals refine AW.sr trivial ?_
 refine AW.seq_k fun K6 h6 => ?_
 all_goals refine AW.sr @List.length_map.{0,0} ?_
 refine AW.block ?_   -- 0
 refine AW.loop (fun m s σ => σ = Hp.empty ∧ ∃ i : Nat, m + i = n.kids.length ∧ s.t 13 = .sl (n.kids.map encNd) ∧ s.t 14 = .c (.int .i64 (n.kids.length : Nat)) ∧ s.t 15 = .c (.int .i64 (i : Nat)) ∧ s.t 3 = .c (.int .i64 (altS ((n.kids.map Nd.alts).take i) : Nat)) ∧ s.t 4 = .c (.int .i64 (altP ((n.kids.map Nd.alts).take i) : Nat)) ∧
  s.t 1 = .lp 1 0 ∧ s.l 1 = some [.c (.int .i64 n.kind), .c (.string n.var), .c (.string n.type), .sl (n.tests.map encC), .sl (n.kids.map encNd)]) n.kids.length ?_ ?_
 ·refine ⟨rfl, 0, by simp, ?_⟩
  simp only [zs, simprocAttr]
  all_goals ((try and_intros) <;> first | rfl | assumption | (simp [altS, altP]))
 rintro m s σ ⟨rfl, i, hm, e7, e8, e9, e3, e4, e1, l1⟩
 all_goals refine AW.sr (J2 e9 e8) ?_
 refine AW.seq_k fun K9 h9 => ?_
 refine AW.cond (b := decide (i < n.kids.length)) (by simp [ev]) (fun hc => ?_) (fun hc => ?_)
 ·have hi := of_decide_eq_true hc
  obtain ⟨x, hx, hxm, hg⟩ := kid_get hi
  have hw := wadd1 (a := i) (by omega)
  have hgx : (n.kids.map Nd.alts)[i]? = some x.alts := by rw [List.getElem?_map, hx]; rfl
  have hs1 : altS ((n.kids.map Nd.alts).take (i + 1)) = min (altS ((n.kids.map Nd.alts).take i) + x.alts) 65 := fold_step hgx
  have hs2 : altP ((n.kids.map Nd.alts).take (i + 1)) = min (altP ((n.kids.map Nd.alts).take i) * x.alts) 65 := fold_step hgx
  have ha := x.alts_le
  have b1 := altS_le ((n.kids.map Nd.alts).take i)
  have b2 := altP_le ((n.kids.map Nd.alts).take i)
  generalize altS ((n.kids.map Nd.alts).take i) = S1 at e3 hs1 b1
  generalize altP ((n.kids.map Nd.alts).take i) = P1 at e4 hs2 b2
  have hw2 := wadd (a := S1) (b := x.alts) (by omega)
  have hm65 : P1 * x.alts ≤ 65 * 65 := Nat.mul_le_mul b2 ha
  have hw3 : IntKind.i64.wrap ((P1 : Int) * x.alts) = ((P1 * x.alts : Nat) : Int) := by
   rw [← Int.natCast_mul]; exact wsm (by omega)
  refine AW.skip ?_
  simp only [zs, simprocAttr]
  all_goals apply_assumption
  refine AW.seq_k fun K10 h10 => ?_
  refine AW.block ?_   -- 1
  refine AW.sr (J6 e7 e9 hi hg @nd @List.length_map.{0,0}) ?_
  refine AW.seq_k fun K12 h12 => ?_
  refine AW.reg0 ?_
  refine S.one @nd ?_
  (refine S.g rfl rfl fun Y Z => ?_; simp only [zz, simprocAttr, -Int.reduceNatCast', -Int.reduceToNat, nd]; refine PCalls.eqto (ih x hxm) ?_ <;> (refine Z _ _ ?_; clear Z Y))
  all_goals refine S.one @nd ?_
  all_goals (refine S.nil ?_; simp only [ze, simprocAttr, nd]; apply_assumption)
  all_goals refine AW.sr (J3 e3 hw2 @minI) ?_
  all_goals refine AW.reg0 (S.rn (J3 e4 hw3 @minI) ?_)
  all_goals apply_assumption
  all_goals have q1q := J6 e7 e8 e9 hw e1 l1
  all_goals refine AW.reg0 (S.rn q1q ?_)
  all_goals simp only [ze, simprocAttr, q1q]
  refine ⟨m - 1, by omega, i + 1, by omega, ?_⟩
  all_goals ((try and_intros) <;> first | rfl | assumption | (first | rw [hs1] | rw [hs2]))
 ·have hi := of_decide_eq_false hc
  refine AW.exit ?_
  simp only [zs, simprocAttr]
  all_goals apply_assumption
  rw [List.take_of_length_le (by rw [List.length_map]; omega)] at e3 e4
  refine AW.seq_k fun K14 h14 => ?_
  refine AW.sr (J3 e1 l1 hke) ?_
  refine AW.cond (b := decide (n.kind = 4)) (by simp [ev]) (fun hc => ?_) (fun hc => ?_)
  ·refine AW.sr e3 ?_
   refine AW.ret ?_
   simp only [zs, simprocAttr]
   rw [hte, if_pos (of_decide_eq_true hc)]
  ·refine AW.skip ?_
   simp only [zs, simprocAttr]
   all_goals apply_assumption
   refine AW.sr e4 ?_
   refine AW.ret ?_
   simp only [zs, simprocAttr]
   rw [hte, if_neg (of_decide_eq_false hc)]
def idOf (b : Bd) : Int × Int := (b.ev.src, b.ev.seq)
def allEq {α : Type} (f : α → α → Bool) : List α → List α → Bool
  | [], [] => true
  | a :: l, b :: m => f a b && allEq f l m
  | _, _ => false
theorem allEq_len {α : Type} {f : α → α → Bool} : ∀ {l m : List α}, l.length ≠ m.length → allEq f l m = false
 | [], [], h => absurd rfl h
 | a :: l, b :: m, h => by simp [allEq, allEq_len (f := f) (l := l) (m := m) (by simpa using h)]
 | [], _ :: _, _ => rfl
 | _ :: _, [], _ => rfl
def encS (s : ByteArray) : List V := [.c (.string s)]
def eqS (a b : ByteArray) : Bool := a.toList == b.toList
def hasS (l : List ByteArray) (s : ByteArray) : Bool := l.any (eqS · s)
theorem eqS_symm (a b : ByteArray) : eqS a b = eqS b a := by
 rw [Bool.eq_iff_iff, eqS, eqS, beq_iff_eq, beq_iff_eq]; exact ⟨Eq.symm, Eq.symm⟩
theorem eqS_iff {a b : ByteArray} : eqS a b = true ↔ a = b := by
 rw [eqS, beq_iff_eq, ByteArray.toList_eq, ByteArray.toList_eq]
 refine ⟨fun h => ?_, fun h => by rw [h]⟩
 cases a; cases b
 exact congrArg _ (Array.toList_inj.1 h)
theorem hasS_iff {l : List ByteArray} {s : ByteArray} : hasS l s = true ↔ s ∈ l := by
 simp only [hasS, List.any_eq_true, eqS_iff]
 exact ⟨fun ⟨x, h, e⟩ => e ▸ h, fun h => ⟨s, h, rfl⟩⟩
def idxS (s : ByteArray) : Nat → List ByteArray → Int
  | _, [] => -1
  | i, x :: l => if eqS x s then (i : Int) else idxS s (i + 1) l
theorem hasS_cons (x : ByteArray) (r : List ByteArray) (s : ByteArray) : hasS (x :: r) s = (x.toList == s.toList || hasS r s) := rfl
theorem idxS_has (s : ByteArray) : ∀ (l : List ByteArray) (i : Nat), decide (idxS s i l ≥ 0) = hasS l s
  | [], i => rfl
  | x :: l, i => by
    have ih := idxS_has s l (i + 1)
    rw [hasS_cons, idxS]
    by_cases h : eqS x s = true
    · rw [if_pos h]
      have h' : (x.toList == s.toList) = true := h
      rw [h', Bool.true_or]; simp
    · rw [if_neg h]
      have h' : (x.toList == s.toList) = false := by simpa [eqS] using h
      rw [h', Bool.false_or]; exact ih
theorem str_get {l : List ByteArray} {i : Nat} (h : i < l.length) : ∃ x, l[i]? = some x ∧ (l.map encS).getD i [] = [.c (.string x)] ∧ l.drop i = x :: l.drop (i + 1) := ⟨l[i], List.getElem?_eq_getElem h, getD_map h, List.drop_eq_getElem_cons h⟩
theorem indexS_spec (l : List ByteArray) (str : ByteArray) (hl : l.length < 4611686018427387904) : PCalls Tryz.prog 159 [.sl (l.map encS), .c (.string str)] (fun v => v = .c (.int .i64 (idxS str 0 l))) := by
 refine PCalls.intro Tryz.call159 Tryz.func159 rfl Tryz.ntmps159 Tryz.results159 (by simp) ?_
 refine AW.sr trivial ?_
 refine AW.seq_k fun K2 h2 => ?_
 refine AW.sr @List.length_map.{0,0} ?_
 refine AW.block ?_   -- 0
 refine AW.loop (fun m s σ => σ = Hp.empty ∧ ∃ i : Nat, m + i = l.length ∧ s.t 0 = .sl (l.map encS) ∧ s.t 1 = .c (.string str) ∧ s.t 7 = .c (.int .i64 (l.length : Nat)) ∧ s.t 8 = .c (.int .i64 (i : Nat)) ∧ idxS str 0 l = idxS str i (l.drop i)) l.length ?_ ?_
 ·refine ⟨rfl, 0, by simp, ?_⟩
  simp only [zs, simprocAttr]
  all_goals ((try and_intros) <;> first | rfl | assumption | (simp))
 rintro m s σ ⟨rfl, i, hm, e0, e1, e7, e8, hp⟩
 all_goals refine AW.sr (J2 e7 e8) ?_
 refine AW.seq_k fun K5 h5 => ?_
 refine AW.cond (b := decide (i < l.length)) (by simp [ev]) (fun hc => ?_) (fun hc => ?_)
 ·have hi := of_decide_eq_true hc
  obtain ⟨x, hx, hg, hd⟩ := str_get hi
  have hw := wadd1 (a := i) (by omega)
  rw [hd, idxS, eqS_symm, eqS] at hp
  refine AW.skip ?_
  simp only [zs, simprocAttr]
  all_goals apply_assumption
  refine AW.seq_k fun K6 h6 => ?_
  refine AW.block ?_   -- 1
  refine AW.sr e8 ?_
  refine AW.sr (J5 e0 e1 hi hg @List.length_map.{0,0}) ?_
  refine AW.cond (b := str.toList == x.toList) (by simp [ev]) (fun hc2 => ?_) (fun hc2 => ?_)
  ·refine AW.sr trivial ?_
   refine AW.ret ?_
   simp only [zs, simprocAttr]
   rw [hp, if_pos hc2]
  ·refine AW.skip ?_
   simp only [zs, simprocAttr]
   all_goals apply_assumption
   rw [hc2] at hp
   have q1q := J5 e8 hw e0 e1 e7
   refine AW.reg0 (S.rn q1q ?_)
   simp only [ze, simprocAttr, q1q]
   refine ⟨m - 1, by omega, i + 1, by omega, ?_⟩
   all_goals ((try and_intros) <;> first | rfl | assumption | (simpa using hp))
 ·have hi := of_decide_eq_false hc
  refine AW.exit ?_
  simp only [zs, simprocAttr]
  all_goals apply_assumption
  rw [List.drop_of_length_le (by omega), idxS] at hp
  refine AW.sr trivial ?_
  refine AW.ret ?_
  simp only [zs, simprocAttr]
  rw [hp]
theorem containsS_spec (l : List ByteArray) (str : ByteArray) (hl : l.length < 4611686018427387904) : PCalls Tryz.prog 117 [.sl (l.map encS), .c (.string str)] (fun v => v = .c (.bool (hasS l str))) := by
 have hh := idxS_has str l 0
 refine PCalls.intro Tryz.call117 Tryz.func117 rfl Tryz.ntmps117 Tryz.results117 (by simp) ?_
 refine AW.sr trivial ?_
 refine AW.seq_k fun K2 h2 => ?_
 refine AW.reg0 ?_
 iterate 2 refine S.one hh ?_
 (refine S.g rfl rfl fun Y Z => ?_; simp only [zz, simprocAttr, -Int.reduceNatCast', -Int.reduceToNat, hh]; refine PCalls.eqto (indexS_spec _ _ hl) ?_ <;> (refine Z _ _ ?_; clear Z Y))
 all_goals iterate 2 refine S.one hh ?_
 all_goals (refine S.nil ?_; simp only [ze, simprocAttr, hh]; apply_assumption)
 refine AW.ret ?_
 all_goals simp only [zs, simprocAttr]
def valNone (v : Val) : Bool := decide (v.kind = 0 ∧ v.n = 0 ∧ v.s.size = 0)
def opdVar (vars : List ByteArray) (o : Opd) : Bool := if vars.length = 0 then decide (o.var.size = 0) else hasS vars o.var
def opdOk (vars : List ByteArray) (o : Opd) : Bool :=
  if o.attr.size = 0 then decide (o.var.size = 0) && valOk o.v else valNone o.v && isName o.attr && opdVar vars o
def cndBad (vars : List ByteArray) (c : Cnd) : Bool :=
  decide (c.rel < 1 ∨ c.rel > 6) || !opdOk vars c.l || !opdOk vars c.r || (decide (c.l.attr.size = 0) && decide (c.r.attr.size = 0))
structure okO (o : Opd) : Prop where
  attr : o.attr.size < 4611686018427387904
structure okC (c : Cnd) : Prop where
  l : okO c.l
  r : okO c.r
theorem operand_spec (o : Opd) (vars : List ByteArray) (ho : okO o) (hv : vars.length < 4611686018427387904) : PCalls Tryz.prog 155 [.agg (encO o), .sl (vars.map encS)] (fun v => v = .c (.bool (opdOk vars o))) := by
 refine PCalls.intro Tryz.call155 Tryz.func155 rfl Tryz.ntmps155 Tryz.results155 (by simp) ?_
 refine AW.sr @encO.eq_1 ?_
 refine AW.seq_k fun K2 h2 => ?_
 refine AW.sr trivial ?_
 refine AW.cond (b := decide (o.attr.size = 0)) (by simp [ev]) (fun hc => ?_) (fun hc => ?_)
 ·have hc := of_decide_eq_true hc
  refine AW.seq_j (fun s' σ' => σ' = Hp.empty ∧ s'.t 4 = .c (.bool (decide (o.var.size = 0) && valOk o.v))) ?_ ?_
  ·skip
   refine AW.reg0 ?_
   iterate 2 refine S.one trivial ?_
   (refine S.sp trivial fun b a10 => ?_; cases b <;> (try exact nope a10))
   all_goals iterate 3 refine S.one trivial ?_
   all_goals (first | (refine S.y rfl rfl rfl rfl fun Y Z => ?_; simp only [zz, simprocAttr, -Int.reduceNatCast', -Int.reduceToNat]; refine PCalls.eqto (check_val o.v) ?_ <;> (refine Z _ _ ?_; clear Z Y)) | ((first | refine S.x rfl rfl rfl rfl fun Y Z => ?_ | refine S.u rfl rfl rfl rfl fun Y Z => ?_); simp only [ze, simprocAttr, -Int.reduceNatCast', -Int.reduceToNat]; refine Z _ _ ?_; clear Z Y))
   all_goals iterate 3 refine S.one trivial ?_
   all_goals refine S.nil ?_
   all_goals simp only [ze, simprocAttr]
   all_goals (cases h : valOk o.v <;> simp_all [valErr])
  rintro s σ ⟨rfl, e4⟩
  refine AW.ret ?_
  all_goals simp only [zs, simprocAttr, e4]
  all_goals ((try and_intros) <;> first | rfl | assumption | (simp [opdOk, hc]))
 ·have hc := of_decide_eq_false hc
  refine AW.skip ?_
  simp only [zs, simprocAttr]
  all_goals apply_assumption
  refine AW.seq_k fun K4 h4 => ?_
  refine AW.seq_j (fun s' σ' => σ' = Hp.empty ∧ s'.t 2 = .lp 2 0 ∧ s'.l 2 = some (encO o) ∧ s'.t 1 = .sl (vars.map encS) ∧ s'.t 26 = .c (.bool (!(valNone o.v && isName o.attr)))) ?_ ?_
  ·skip
   refine AW.region (T := { eqk := eqTab }) (eqTab_ok) rfl ?_
   iterate 3 refine S.one trivial ?_
   (refine S.sp (J12 @eqk43 @fitsAll.eq_1 @fitsAll.eq_2 @fitsAll.eq_3 @SK.fits.eq_1 @SK.fits.eq_2 @SK.fits.eq_3 @SK.fits.eq_4 @cellsEq.eq_1 @cellsEq.eq_2 @cellsEq.eq_3 (J4 @cellEq.eq_1 @cellEq.eq_2 @cellEq.eq_3 @cellEq.eq_4)) fun b a20 => ?_; cases b <;> (try exact nope a20))
   all_goals iterate 3 refine S.one trivial ?_
   all_goals (first | (refine S.y rfl rfl rfl rfl fun Y Z => ?_; simp only [zz, simprocAttr, -Int.reduceNatCast', -Int.reduceToNat]; refine PCalls.eqto (name_spec _ ho.attr) ?_ <;> (refine Z _ _ ?_; clear Z Y)) | ((first | refine S.x rfl rfl rfl rfl fun Y Z => ?_ | refine S.u rfl rfl rfl rfl fun Y Z => ?_); simp only [ze, simprocAttr, -Int.reduceNatCast', -Int.reduceToNat]; refine Z _ _ ?_; clear Z Y))
   all_goals iterate 2 refine S.one trivial ?_
   all_goals refine S.nil ?_
   all_goals simp only [ze, simprocAttr]
   all_goals simp_all [valNone, encO]
  rintro s σ ⟨rfl, e2, l2, e1, e26⟩
  refine AW.cond (b := !(valNone o.v && isName o.attr)) e26 (fun hb => ?_) (fun hb => ?_)
  ·refine AW.sr trivial ?_
   refine AW.ret ?_
   simp only [zs, simprocAttr]
   all_goals ((try and_intros) <;> first | rfl | assumption | ((cases h1 : valNone o.v <;> cases h2 : isName o.attr <;> simp_all [opdOk])))
  refine AW.skip ?_
  all_goals simp only [zs, simprocAttr]
  all_goals apply_assumption
  refine AW.seq_k fun K6 h6 => ?_
  all_goals refine AW.sr (J2 e1 @List.length_map.{0,0}) ?_
  refine AW.cond (b := ((vars.length : Int) == 0)) (by simp [ev]) (fun hn => ?_) (fun hn => ?_)
  ·have hn : vars.length = 0 := by simpa using hn
   refine AW.sr (J3 e2 l2 @encO.eq_1) ?_
   refine AW.ret ?_
   simp only [zs, simprocAttr]
   all_goals ((try and_intros) <;> first | rfl | assumption | (simp_all [opdOk, opdVar]))
  ·have hn : ¬ vars.length = 0 := by simpa using hn
   refine AW.skip ?_
   simp only [zs, simprocAttr]
   all_goals apply_assumption
   refine AW.seq_k fun K9 h9 => ?_
   refine AW.reg0 ?_
   iterate 3 refine S.one (J4 e1 e2 l2 @encO.eq_1) ?_
   have q1q := J4 e1 e2 l2 @encO.eq_1
   (refine S.g rfl rfl fun Y Z => ?_; simp only [zz, simprocAttr, -Int.reduceNatCast', -Int.reduceToNat, q1q]; refine PCalls.eqto (containsS_spec _ _ hv) ?_ <;> (refine Z _ _ ?_; clear Z Y))
   all_goals refine S.one q1q ?_
   all_goals (refine S.nil ?_; simp only [ze, simprocAttr, q1q]; apply_assumption)
   refine AW.ret ?_
   all_goals simp only [zs, simprocAttr]
   all_goals ((try and_intros) <;> first | rfl | assumption | (simp_all [opdOk, opdVar]))
theorem Cond_spec (c : Cnd) (vars : List ByteArray) (hc : okC c) (hv : vars.length < 4611686018427387904) : PCalls Tryz.prog 112 [.agg (encC c), .sl (vars.map encS)] (fun v => v = .c (.int .i64 (if cndBad vars c then 74 else 0))) := by
 have hl := hc.l
 have hr := hc.r
 refine PCalls.intro Tryz.call112 Tryz.func112 rfl Tryz.ntmps112 Tryz.results112 (by simp) ?_
 refine AW.sr (J2 @encC.eq_1 @encO.eq_1) ?_
 refine AW.seq_k fun K2 h2 => ?_
 refine AW.seq_j (fun s' σ' => σ' = Hp.empty ∧ s'.t 38 = .c (.bool (cndBad vars c))) ?_ ?_
 ·skip
  refine AW.reg0 ?_
  iterate 2 refine S.one trivial ?_
  (refine S.sp trivial fun b a7 => ?_; cases b <;> (try exact nope a7))
  all_goals iterate 3 refine S.one trivial ?_
  all_goals (first | (refine S.sp trivial fun b a11 => ?_; cases b <;> (try exact nope a11)) | ((first | refine S.x rfl rfl rfl rfl fun Y Z => ?_ | refine S.u rfl rfl rfl rfl fun Y Z => ?_); simp only [ze, simprocAttr, -Int.reduceNatCast', -Int.reduceToNat]; refine Z _ _ ?_; clear Z Y))
  all_goals iterate 5 refine S.one trivial ?_
  all_goals (first | (refine S.y rfl rfl rfl rfl fun Y Z => ?_; simp only [zz, simprocAttr, -Int.reduceNatCast', -Int.reduceToNat]; refine PCalls.eqto (operand_spec _ _ (by assumption) hv) ?_; refine S.bool fun b a17 => ?_; cases b <;> (try exact nope a17) <;> (refine Z _ _ ?_; clear Z Y)) | ((first | refine S.x rfl rfl rfl rfl fun Y Z => ?_ | refine S.u rfl rfl rfl rfl fun Y Z => ?_); simp only [ze, simprocAttr, -Int.reduceNatCast', -Int.reduceToNat]; refine Z _ _ ?_; clear Z Y))
  all_goals iterate 6 refine S.one trivial ?_
  all_goals (first | (refine S.y rfl rfl rfl rfl fun Y Z => ?_; simp only [zz, simprocAttr, -Int.reduceNatCast', -Int.reduceToNat]; refine PCalls.eqto (operand_spec _ _ (by assumption) hv) ?_; refine S.bool fun b a24 => ?_; cases b <;> (try exact nope a24) <;> (refine Z _ _ ?_; clear Z Y)) | ((first | refine S.x rfl rfl rfl rfl fun Y Z => ?_ | refine S.u rfl rfl rfl rfl fun Y Z => ?_); simp only [ze, simprocAttr, -Int.reduceNatCast', -Int.reduceToNat]; refine Z _ _ ?_; clear Z Y))
  all_goals iterate 6 refine S.one trivial ?_
  all_goals (first | (refine S.sp trivial fun b a31 => ?_; cases b <;> (try exact nope a31)) | ((first | refine S.x rfl rfl rfl rfl fun Y Z => ?_ | refine S.u rfl rfl rfl rfl fun Y Z => ?_); simp only [ze, simprocAttr, -Int.reduceNatCast', -Int.reduceToNat]; refine Z _ _ ?_; clear Z Y))
  all_goals iterate 7 refine S.one trivial ?_
  all_goals refine S.nil ?_
  all_goals simp only [ze, simprocAttr]
  all_goals simp_all [cndBad]
  all_goals omega
 rintro s σ ⟨rfl, e38⟩
 refine AW.cond (b := cndBad vars c) e38 (fun hb => ?_) (fun hb => ?_)
 ·refine AW.sr trivial ?_
  refine AW.ret ?_
  simp only [zs, simprocAttr]
  all_goals ((try and_intros) <;> first | rfl | assumption | (simp_all))
 ·refine AW.skip ?_
  simp only [zs, simprocAttr]
  all_goals apply_assumption
  refine AW.sr trivial ?_
  refine AW.ret ?_
  simp only [zs, simprocAttr]
  all_goals ((try and_intros) <;> first | rfl | assumption | (simp_all))
def cndsBad (vars : List ByteArray) (l : List Cnd) : Bool := l.any (cndBad vars)
def cndsErr (vars : List ByteArray) (l : List Cnd) : Int := if decide (16 < l.length) || cndsBad vars l then 74 else 0
theorem cndsBad_cons (vars : List ByteArray) (c : Cnd) (l : List Cnd) : cndsBad vars (c :: l) = (cndBad vars c || cndsBad vars l) := rfl
theorem cnd_get {l : List Cnd} {i : Nat} (h : i < l.length) : ∃ x, l[i]? = some x ∧ x ∈ l ∧ (l.map encC).getD i [] = encC x ∧ l.drop i = x :: l.drop (i + 1) := ⟨l[i], List.getElem?_eq_getElem h, List.getElem_mem h, getD_map h, List.drop_eq_getElem_cons h⟩
theorem encC_take (c : Cnd) : (encC c).take 11 = encC c := rfl
theorem encC_drop (c : Cnd) : (encC c).drop 11 = [] := rfl
theorem encC_wk (c : Cnd) : (encC c).map wk1 = encC c := rfl
theorem cd : (∀ n : Cnd, (encC n).length = 11) ∧ (∀ n : Cnd, (encC n).take 11 = encC n) ∧ (∀ n : Cnd, (encC n).drop 11 = []) ∧ (∀ n : Cnd, (encC n).map wk1 = encC n) := ⟨encC_len, encC_take, encC_drop, encC_wk⟩
theorem conds_spec (l : List Cnd) (vars : List ByteArray) (hl : ∀ c ∈ l, okC c) (hll : l.length < 4611686018427387904) (hv : vars.length < 4611686018427387904) : PCalls Tryz.prog 71 [.sl (l.map encC), .sl (vars.map encS)] (fun v => v = .c (.int .i64 (cndsErr vars l))) := by
 refine PCalls.intro Tryz.call71 Tryz.func71 rfl Tryz.ntmps71 Tryz.results71 (by simp) ?_
 refine AW.sr trivial ?_
 refine AW.seq_k fun K2 h2 => ?_
 refine AW.sr @List.length_map.{0,0} ?_
 refine AW.cond (b := decide ((l.length : Int) > 16)) (by simp [ev]) (fun hc => ?_) (fun hc => ?_)
 ·have hc : 16 < l.length := by have := of_decide_eq_true hc; omega
  refine AW.sr trivial ?_
  refine AW.ret ?_
  simp only [zs, simprocAttr]
  all_goals ((try and_intros) <;> first | rfl | assumption | (simp [cndsErr, hc]))
 have hc : ¬ 16 < l.length := by have := of_decide_eq_false hc; omega
 refine AW.skip ?_
 all_goals simp only [zs, simprocAttr]
 all_goals apply_assumption
 refine AW.seq_k fun K5 h5 => ?_
 all_goals refine AW.sr @List.length_map.{0,0} ?_
 refine AW.block ?_   -- 0
 refine AW.loop (fun m s σ => σ = Hp.empty ∧ ∃ i : Nat, m + i = l.length ∧ s.t 11 = .sl (l.map encC) ∧ s.t 12 = .c (.int .i64 (l.length : Nat)) ∧ s.t 13 = .c (.int .i64 (i : Nat)) ∧ s.t 1 = .sl (vars.map encS) ∧ cndsBad vars l = cndsBad vars (l.drop i)) l.length ?_ ?_
 ·refine ⟨rfl, 0, by simp, ?_⟩
  simp only [zs, simprocAttr]
  all_goals ((try and_intros) <;> first | rfl | assumption | (simp))
 rintro m s σ ⟨rfl, i, hm, e11, e12, e13, e1, hp⟩
 all_goals refine AW.sr (J2 e13 e12) ?_
 refine AW.seq_k fun K8 h8 => ?_
 refine AW.cond (b := decide (i < l.length)) (by simp [ev]) (fun hi => ?_) (fun hi => ?_)
 ·have hi := of_decide_eq_true hi
  obtain ⟨x, hx, hxm, hg, hd⟩ := cnd_get hi
  have hw := wadd1 (a := i) (by omega)
  rw [hd, cndsBad_cons] at hp
  refine AW.skip ?_
  simp only [zs, simprocAttr]
  all_goals apply_assumption
  refine AW.seq_k fun K9 h9 => ?_
  refine AW.block ?_   -- 1
  refine AW.sr (J6 e11 e13 hi hg @cd @List.length_map.{0,0}) ?_
  refine AW.seq_k fun K11 h11 => ?_
  refine AW.reg0 ?_
  iterate 2 refine S.one (J2 e1 @cd) ?_
  (refine S.g rfl rfl fun Y Z => ?_; simp only [zz, simprocAttr, -Int.reduceNatCast', -Int.reduceToNat, e1, cd]; refine PCalls.eqto (Cond_spec x vars (hl x hxm) hv) ?_ <;> (refine Z _ _ ?_; clear Z Y))
  all_goals refine S.one (J2 e1 @cd) ?_
  all_goals (refine S.nil ?_; simp only [ze, simprocAttr, e1, cd]; apply_assumption)
  all_goals refine AW.sr trivial ?_
  refine AW.cond (b := cndBad vars x) (by cases h : cndBad vars x <;> simp [ev]) (fun hb => ?_) (fun hb => ?_)
  ·refine AW.sr trivial ?_
   refine AW.ret ?_
   simp only [zs, simprocAttr]
   all_goals ((try and_intros) <;> first | rfl | assumption | (simp [cndsErr, hp, hb]))
  ·refine AW.skip ?_
   simp only [zs, simprocAttr]
   all_goals apply_assumption
   rw [hb, Bool.false_or] at hp
   have q1q := J5 e13 hw e11 e12 e1
   refine AW.reg0 (S.rn q1q ?_)
   simp only [ze, simprocAttr, q1q]
   refine ⟨m - 1, by omega, i + 1, by omega, ?_⟩
   all_goals ((try and_intros) <;> first | rfl | assumption | (exact hp))
 ·have hi := of_decide_eq_false hi
  refine AW.exit ?_
  simp only [zs, simprocAttr]
  all_goals apply_assumption
  rw [List.drop_of_length_le (by omega)] at hp
  have hp : cndsBad vars l = false := hp
  refine AW.sr trivial ?_
  refine AW.ret ?_
  simp only [zs, simprocAttr]
  all_goals ((try and_intros) <;> first | rfl | assumption | (simp [cndsErr, hp, hc]))
def leafBad (n : Nd) : Bool := decide (n.kids.length > 0) || !isName n.var || !isName n.type
def joinBad (n : Nd) : Bool := decide (n.kids.length < 2) || decide (n.var.size ≠ 0) || decide (n.type.size ≠ 0) || decide (n.tests.length > 0)
def ndOwn (n : Nd) : Int := if n.kind = 1 then (if leafBad n then 71 else cndsErr [] n.tests) else if n.kind = 2 ∨ n.kind = 3 ∨ n.kind = 4 then (if joinBad n then 71 else 0) else 71
def firstErr : List Int → Int
  | [] => 0
  | e :: l => if e = 0 then firstErr l else e
def Nd.err (n : Nd) : Int := n.para fun n l => if ndOwn n = 0 then firstErr l else ndOwn n
theorem Nd.err_eq (n : Nd) : n.err = if ndOwn n = 0 then firstErr (n.kids.map Nd.err) else ndOwn n := Nd.para_eq _ n
structure Nd.okOwn (n : Nd) : Prop where
  var : n.var.size < 4611686018427387904
  type : n.type.size < 4611686018427387904
  len : n.tests.length < 4611686018427387904
  tests : ∀ c ∈ n.tests, okC c
def Nd.ok (n : Nd) : Prop := n.para fun n l => n.okOwn ∧ ∀ p ∈ l, p
theorem Nd.ok_eq (n : Nd) : n.ok = (n.okOwn ∧ ∀ p ∈ n.kids.map Nd.ok, p) := Nd.para_eq _ n
theorem Nd.ok.own {n : Nd} (h : n.ok) : n.okOwn := by rw [Nd.ok_eq] at h; exact h.1
theorem Nd.ok.kid {n x : Nd} (h : n.ok) (hx : x ∈ n.kids) : x.ok := by rw [Nd.ok_eq] at h; exact h.2 _ (List.mem_map_of_mem hx)
theorem node_spec : ∀ n : Nd, n.small → n.ok → PCalls Tryz.prog 110 [.agg (encNd n)] (fun v => v = .c (.int .i64 n.err)) := Nd.ind fun n ih hn ho => by
 have hl := hn.len
 have hv := ho.own.var
 have ht := ho.own.type
 have htl := ho.own.len
 have q1 : ((n.kids.length : Int) < 2) = (n.kids.length < 2) := by rw [eq_iff_iff]; omega
 have q2 : ((n.tests.length : Int) > 0) = (n.tests.length > 0) := by rw [eq_iff_iff]; omega
 have q3 : ((n.kids.length : Int) > 0) = (n.kids.length > 0) := by rw [eq_iff_iff]; omega
 have hts := ho.own.tests
 rw [encNd_eq]
 refine PCalls.intro Tryz.call110 Tryz.func110 rfl Tryz.ntmps110 Tryz.results110 (by simp) ?_
 refine AW.sr trivial ?_
 refine AW.seq_j (fun s' σ' => σ' = Hp.empty ∧ s'.t 1 = .lp 1 0 ∧ s'.l 1 = some [.c (.int .i64 n.kind), .c (.string n.var), .c (.string n.type), .sl (n.tests.map encC), .sl (n.kids.map encNd)] ∧ ndOwn n = 0) ?_ ?_
 ·refine AW.sr trivial ?_
  refine AW.block ?_   -- 0
  refine AW.sr trivial ?_
  refine AW.cond (b := n.kind == 1) (by simp [ev]) (fun hk => ?_) (fun hk => ?_)
  ·have hk : n.kind = 1 := by simpa using hk
   refine AW.seq_k fun K4 h4 => ?_
   refine AW.seq_j (fun s' σ' => σ' = Hp.empty ∧ s'.t 1 = .lp 1 0 ∧ s'.l 1 = some [.c (.int .i64 n.kind), .c (.string n.var), .c (.string n.type), .sl (n.tests.map encC), .sl (n.kids.map encNd)] ∧ s'.t 26 = .c (.bool (leafBad n))) ?_ ?_
   ·skip
    refine AW.reg0 ?_
    have q1q := J2 q3 @List.length_map.{0,0}
    iterate 3 refine S.one q1q ?_
    (refine S.sp q1q fun b a14 => ?_; cases b <;> (try exact nope a14))
    all_goals iterate 3 refine S.one q1q ?_
    all_goals have q2q := J2 q3 @List.length_map.{0,0}
    all_goals (first | (refine S.y rfl rfl rfl rfl fun Y Z => ?_; simp only [zz, simprocAttr, -Int.reduceNatCast', -Int.reduceToNat, q2q]; (first | refine PCalls.eqto (name_spec _ hv) ?_ | refine PCalls.eqto (name_spec _ ht) ?_); refine S.bool fun b a18 => ?_; cases b <;> (try exact nope a18) <;> (refine Z _ _ ?_; clear Z Y)) | ((first | refine S.x rfl rfl rfl rfl fun Y Z => ?_ | refine S.u rfl rfl rfl rfl fun Y Z => ?_); simp only [ze, simprocAttr, -Int.reduceNatCast', -Int.reduceToNat]; refine Z _ _ ?_; clear Z Y))
    all_goals iterate 5 refine S.one q2q ?_
    all_goals have q3q := J2 q3 @List.length_map.{0,0}
    all_goals (first | (refine S.y rfl rfl rfl rfl fun Y Z => ?_; simp only [zz, simprocAttr, -Int.reduceNatCast', -Int.reduceToNat, q3q]; (first | refine PCalls.eqto (name_spec _ hv) ?_ | refine PCalls.eqto (name_spec _ ht) ?_) <;> (refine Z _ _ ?_; clear Z Y)) | ((first | refine S.x rfl rfl rfl rfl fun Y Z => ?_ | refine S.u rfl rfl rfl rfl fun Y Z => ?_); simp only [ze, simprocAttr, -Int.reduceNatCast', -Int.reduceToNat]; refine Z _ _ ?_; clear Z Y))
    all_goals iterate 2 refine S.one q3q ?_
    all_goals refine S.nil ?_
    all_goals simp only [ze, simprocAttr, q3q]
    all_goals simp_all [leafBad]
   rintro s σ ⟨rfl, e1, l1, e26⟩
   refine AW.cond (b := leafBad n) e26 (fun hb => ?_) (fun hb => ?_)
   ·refine AW.sr trivial ?_
    refine AW.ret ?_
    simp only [zs, simprocAttr]
    all_goals ((try and_intros) <;> first | rfl | assumption | (simp [Nd.err_eq, ndOwn, hk, hb]))
   refine AW.skip ?_
   all_goals simp only [zs, simprocAttr]
   all_goals apply_assumption
   refine AW.seq_k fun K6 h6 => ?_
   all_goals refine AW.reg0 ?_
   all_goals iterate 2 refine S.one (J3 e1 l1 @List.length_map.{0,0}) ?_
   all_goals have q4q := J3 e1 l1 @List.length_map.{0,0}
   all_goals (refine S.g rfl rfl fun Y Z => ?_; simp only [zz, simprocAttr, -Int.reduceNatCast', -Int.reduceToNat, q4q]; refine PCalls.eqto (conds_spec n.tests [] hts htl (by decide)) ?_ <;> (refine Z _ _ ?_; clear Z Y))
   all_goals refine S.one q4q ?_
   all_goals (refine S.nil ?_; simp only [ze, simprocAttr, q4q]; apply_assumption)
   all_goals refine AW.sr trivial ?_
   refine AW.cond (b := cndsErr [] n.tests != 0) (by simp [ev]) (fun hc => ?_) (fun hc => ?_)
   ·refine AW.sr trivial ?_
    refine AW.ret ?_
    simp only [zs, simprocAttr]
    all_goals ((try and_intros) <;> first | rfl | assumption | (simp_all [Nd.err_eq, ndOwn]))
   ·refine AW.skip ?_
    simp only [zs, simprocAttr]
    all_goals ((try and_intros) <;> first | rfl | assumption | (simp_all [ndOwn]))
  ·have hk : ¬ n.kind = 1 := by simpa using hk
   refine AW.seq_j (fun s' σ' => σ' = Hp.empty ∧ s'.t 1 = .lp 1 0 ∧ s'.l 1 = some [.c (.int .i64 n.kind), .c (.string n.var), .c (.string n.type), .sl (n.tests.map encC), .sl (n.kids.map encNd)] ∧ s'.t 33 = .c (.bool (decide (n.kind = 2 ∨ n.kind = 3 ∨ n.kind = 4)))) ?_ ?_
   ·refine AW.sr trivial ?_
    refine AW.cond (b := n.kind == 2) (by simp [ev]) (fun h2 => ?_) (fun h2 => ?_)
    ·refine AW.skip ?_
     simp only [zs, simprocAttr]
     all_goals ((try and_intros) <;> first | rfl | assumption | (simp_all))
    all_goals refine AW.sr trivial ?_
    refine AW.cond (b := n.kind == 3) (by simp [ev]) (fun h3 => ?_) (fun h3 => ?_)
    ·refine AW.skip ?_
     simp only [zs, simprocAttr]
     all_goals ((try and_intros) <;> first | rfl | assumption | (simp_all))
    all_goals refine AW.reg0 (S.rn trivial ?_)
    all_goals simp only [ze, simprocAttr]
    all_goals simp_all
    all_goals (rw [Bool.eq_iff_iff]; simp)
   rintro s σ ⟨rfl, e1, l1, e33⟩
   refine AW.cond (b := decide (n.kind = 2 ∨ n.kind = 3 ∨ n.kind = 4)) e33 (fun h4 => ?_) (fun h4 => ?_)
   ·have h4 := of_decide_eq_true h4
    refine AW.seq_j (fun s' σ' => σ' = Hp.empty ∧ s'.t 1 = .lp 1 0 ∧ s'.l 1 = some [.c (.int .i64 n.kind), .c (.string n.var), .c (.string n.type), .sl (n.tests.map encC), .sl (n.kids.map encNd)] ∧ s'.t 56 = .c (.bool (joinBad n))) ?_ ?_
    ·skip
     refine AW.reg0 ?_
     have q5q := J5 e1 l1 q1 q2 @List.length_map.{0,0}
     iterate 3 refine S.one q5q ?_
     (refine S.sp q5q fun b a40 => ?_; cases b <;> (try exact nope a40))
     all_goals iterate 3 refine S.one q5q ?_
     all_goals (first | (refine S.sp q5q fun b a44 => ?_; cases b <;> (try exact nope a44)) | ((first | refine S.x rfl rfl rfl rfl fun Y Z => ?_ | refine S.u rfl rfl rfl rfl fun Y Z => ?_); simp only [ze, simprocAttr, -Int.reduceNatCast', -Int.reduceToNat]; refine Z _ _ ?_; clear Z Y))
     all_goals iterate 4 refine S.one q5q ?_
     all_goals (first | (refine S.sp q5q fun b a49 => ?_; cases b <;> (try exact nope a49)) | ((first | refine S.x rfl rfl rfl rfl fun Y Z => ?_ | refine S.u rfl rfl rfl rfl fun Y Z => ?_); simp only [ze, simprocAttr, -Int.reduceNatCast', -Int.reduceToNat]; refine Z _ _ ?_; clear Z Y))
     all_goals iterate 7 refine S.one q5q ?_
     all_goals refine S.nil ?_
     all_goals simp only [ze, simprocAttr, q5q]
     all_goals simp_all [joinBad]
     all_goals omega
    rintro s σ ⟨rfl, e1, l1, e56⟩
    refine AW.cond (b := joinBad n) e56 (fun hb => ?_) (fun hb => ?_)
    ·refine AW.sr trivial ?_
     refine AW.ret ?_
     simp only [zs, simprocAttr]
     all_goals ((try and_intros) <;> first | rfl | assumption | (simp [Nd.err_eq, ndOwn, hk, hb, h4]))
    ·refine AW.skip ?_
     simp only [zs, simprocAttr]
     all_goals ((try and_intros) <;> first | rfl | assumption | (simp [ndOwn, hk, hb, h4]))
   ·have h4 := of_decide_eq_false h4
    refine AW.sr trivial ?_
    refine AW.ret ?_
    simp only [zs, simprocAttr]
    all_goals ((try and_intros) <;> first | rfl | assumption | (simp [Nd.err_eq, ndOwn, hk, h4]))
 rintro s σ ⟨rfl, e1, l1, h0⟩
 have he : n.err = firstErr (n.kids.map Nd.err) := by rw [Nd.err_eq, if_pos h0]
 refine AW.seq_k fun K13 h13 => ?_
 all_goals refine AW.sr (J3 e1 l1 @List.length_map.{0,0}) ?_
 refine AW.block ?_   -- 1
 refine AW.loop (fun m s σ => σ = Hp.empty ∧ ∃ i : Nat, m + i = n.kids.length ∧ s.t 58 = .sl (n.kids.map encNd) ∧ s.t 59 = .c (.int .i64 (n.kids.length : Nat)) ∧ s.t 60 = .c (.int .i64 (i : Nat)) ∧ n.err = firstErr ((n.kids.drop i).map Nd.err)) n.kids.length ?_ ?_
 ·refine ⟨rfl, 0, by simp, ?_⟩
  simp only [zs, simprocAttr]
  all_goals ((try and_intros) <;> first | rfl | assumption | (simpa using he))
 rintro m s σ ⟨rfl, i, hm, e58, e59, e60, hp⟩
 all_goals refine AW.sr (J2 e60 e59) ?_
 refine AW.seq_k fun K16 h16 => ?_
 refine AW.cond (b := decide (i < n.kids.length)) (by simp [ev]) (fun hi => ?_) (fun hi => ?_)
 ·have hi := of_decide_eq_true hi
  obtain ⟨x, hx, hxm, hg⟩ := kid_get hi
  have hd : n.kids.drop i = x :: n.kids.drop (i + 1) := by
   rw [List.drop_eq_getElem_cons hi]; congr 1; rw [List.getElem?_eq_getElem hi] at hx; exact Option.some.inj hx
  have hw := wadd1 (a := i) (by omega)
  rw [hd, List.map_cons, firstErr] at hp
  refine AW.skip ?_
  simp only [zs, simprocAttr]
  all_goals apply_assumption
  refine AW.seq_k fun K17 h17 => ?_
  refine AW.block ?_   -- 2
  refine AW.sr (J6 e58 e60 hi hg @nd @List.length_map.{0,0}) ?_
  refine AW.seq_k fun K19 h19 => ?_
  refine AW.reg0 ?_
  refine S.one @nd ?_
  (refine S.g rfl rfl fun Y Z => ?_; simp only [zz, simprocAttr, -Int.reduceNatCast', -Int.reduceToNat, nd]; refine PCalls.eqto (ih x hxm (hn.kid hxm) (ho.kid hxm)) ?_ <;> (refine Z _ _ ?_; clear Z Y))
  all_goals refine S.one @nd ?_
  all_goals (refine S.nil ?_; simp only [ze, simprocAttr, nd]; apply_assumption)
  all_goals refine AW.sr trivial ?_
  refine AW.cond (b := x.err != 0) (by simp [ev]) (fun hb => ?_) (fun hb => ?_)
  ·refine AW.sr trivial ?_
   refine AW.ret ?_
   simp only [zs, simprocAttr]
   all_goals ((try and_intros) <;> first | rfl | assumption | (simp_all))
  ·refine AW.skip ?_
   simp only [zs, simprocAttr]
   all_goals apply_assumption
   have hb : x.err = 0 := by simpa using hb
   rw [if_pos hb] at hp
   have q6q := J4 e58 e59 e60 hw
   refine AW.reg0 (S.rn q6q ?_)
   simp only [ze, simprocAttr, q6q]
   refine ⟨m - 1, by omega, i + 1, by omega, ?_⟩
   all_goals ((try and_intros) <;> first | rfl | assumption | (exact hp))
 ·have hi := of_decide_eq_false hi
  refine AW.exit ?_
  simp only [zs, simprocAttr]
  all_goals apply_assumption
  rw [List.drop_of_length_le (by omega)] at hp
  have hp : n.err = 0 := hp
  refine AW.sr trivial ?_
  refine AW.ret ?_
  simp only [zs, simprocAttr]
  all_goals ((try and_intros) <;> first | rfl | assumption | (rw [hp]))
def Nd.shape (n : Nd) : Int := if (decide (8 < n.deep) || decide (12 < n.terms)) = true then 72 else if n.err = 0 then (if 64 < n.alts then 72 else 0) else n.err
theorem Shape_spec (n : Nd) (hn : n.small) (ho : n.ok) : PCalls Tryz.prog 69 [.agg (encNd n)] (fun v => v = .c (.int .i64 n.shape)) := by
 have h1 : (((n.deep : Nat) : Int) > 8) = (8 < n.deep) := by rw [eq_iff_iff]; omega
 have h2 : (((n.terms : Nat) : Int) > 12) = (12 < n.terms) := by rw [eq_iff_iff]; omega
 have h3 : (((n.alts : Nat) : Int) > 64) = (64 < n.alts) := by rw [eq_iff_iff]; omega
 refine PCalls.intro Tryz.call69 Tryz.func69 rfl Tryz.ntmps69 Tryz.results69 (by simp) ?_
 refine AW.sr @nd ?_
 refine AW.seq_k fun K2 h2 => ?_
 refine AW.seq_j (fun s' σ' => σ' = Hp.empty ∧ s'.t 1 = .lp 1 0 ∧ s'.l 1 = some (encNd n) ∧ s'.t 11 = .c (.bool (decide (8 < n.deep) || decide (12 < n.terms)))) ?_ ?_
 ·skip
  refine AW.reg0 ?_
  refine S.one (J3 @nd h1 h2) ?_
  (refine S.g rfl rfl fun Y Z => ?_; simp only [zz, simprocAttr, -Int.reduceNatCast', -Int.reduceToNat, nd, h1, h2]; refine PCalls.eqto (deep_spec n hn) ?_ <;> (refine Z _ _ ?_; clear Z Y))
  all_goals (refine S.sp (J3 @nd h1 h2) fun b a6 => ?_; cases b <;> (try exact nope a6))
  all_goals iterate 2 refine S.one (J3 @nd h1 h2) ?_
  all_goals (first | (refine S.y rfl rfl rfl rfl fun Y Z => ?_; simp only [zz, simprocAttr, -Int.reduceNatCast', -Int.reduceToNat, nd, h1, h2]; refine PCalls.eqto (terms_spec n hn) ?_ <;> (refine Z _ _ ?_; clear Z Y)) | ((first | refine S.x rfl rfl rfl rfl fun Y Z => ?_ | refine S.u rfl rfl rfl rfl fun Y Z => ?_); simp only [ze, simprocAttr, -Int.reduceNatCast', -Int.reduceToNat]; refine Z _ _ ?_; clear Z Y))
  all_goals iterate 2 refine S.one (J3 @nd h1 h2) ?_
  all_goals refine S.nil ?_
  all_goals simp only [ze, simprocAttr, nd, h1, h2]
  all_goals simp_all
  all_goals omega
 rintro s σ ⟨rfl, e1, l1, e11⟩
 refine AW.cond (b := decide (8 < n.deep) || decide (12 < n.terms)) e11 (fun hb => ?_) (fun hb => ?_)
 ·refine AW.sr trivial ?_
  refine AW.ret ?_
  simp only [zs, simprocAttr]
  all_goals ((try and_intros) <;> first | rfl | assumption | (simp [Nd.shape, hb]))
 have hs : n.shape = if n.err = 0 then (if 64 < n.alts then 72 else 0) else n.err := by rw [Nd.shape, if_neg (by rw [hb]; exact Bool.false_ne_true)]
 refine AW.skip ?_
 all_goals simp only [zs, simprocAttr]
 all_goals apply_assumption
 refine AW.seq_k fun K4 h4 => ?_
 refine AW.seq_k fun K5 h5 => ?_
 all_goals refine AW.reg0 ?_
 all_goals refine S.one (J3 e1 l1 @nd) ?_
 all_goals (refine S.g rfl rfl fun Y Z => ?_; simp only [zz, simprocAttr, -Int.reduceNatCast', -Int.reduceToNat, e1, l1, nd]; refine PCalls.eqto (node_spec n hn ho) ?_ <;> (refine Z _ _ ?_; clear Z Y))
 all_goals refine S.one (J3 e1 l1 @nd) ?_
 all_goals (refine S.nil ?_; simp only [ze, simprocAttr, e1, l1, nd]; apply_assumption)
 all_goals refine AW.sr trivial ?_
 refine AW.cond (b := n.err != 0) (by simp [ev]) (fun hc => ?_) (fun hc => ?_)
 ·refine AW.sr trivial ?_
  refine AW.ret ?_
  simp only [zs, simprocAttr]
  all_goals ((try and_intros) <;> first | rfl | assumption | ((rw [hs, if_neg (by simpa using hc)])))
 have hc : n.err = 0 := by simpa using hc
 refine AW.skip ?_
 all_goals simp only [zs, simprocAttr]
 all_goals apply_assumption
 refine AW.seq_k fun K8 h8 => ?_
 refine AW.seq_k fun K9 h9 => ?_
 all_goals refine AW.reg0 ?_
 all_goals refine S.one (J4 e1 l1 @nd h3) ?_
 all_goals have q1q := J4 e1 l1 @nd h3
 all_goals (refine S.g rfl rfl fun Y Z => ?_; simp only [zz, simprocAttr, -Int.reduceNatCast', -Int.reduceToNat, q1q]; refine PCalls.eqto (alts_spec n ⟨hn.len, hn⟩) ?_ <;> (refine Z _ _ ?_; clear Z Y))
 all_goals refine S.one q1q ?_
 all_goals (refine S.nil ?_; simp only [ze, simprocAttr, q1q]; apply_assumption)
 refine AW.cond (b := decide (64 < n.alts)) (by simp [ev]) (fun hd => ?_) (fun hd => ?_)
 ·refine AW.sr trivial ?_
  refine AW.ret ?_
  simp only [zs, simprocAttr]
  all_goals ((try and_intros) <;> first | rfl | assumption | ((rw [hs, if_pos hc]; simp_all)))
 ·refine AW.skip ?_
  simp only [zs, simprocAttr]
  all_goals apply_assumption
  refine AW.sr trivial ?_
  refine AW.ret ?_
  simp only [zs, simprocAttr]
  all_goals ((try and_intros) <;> first | rfl | assumption | ((rw [hs, if_pos hc]; simp_all)))
def ltS (a b : ByteArray) : Bool := Op.bytesLess a.toList b.toList
def putS (l : List ByteArray) (s : ByteArray) : List ByteArray := if hasS l s then l else l.takeWhile (ltS · s) ++ s :: l.dropWhile (ltS · s)
def putAll (acc kv : List ByteArray) : List ByteArray := kv.foldl putS acc
theorem take_drop_while {p : ByteArray → Bool} (l : List ByteArray) : (l.takeWhile p).length + (l.dropWhile p).length = l.length := by
 rw [← List.length_append, List.takeWhile_append_dropWhile]
theorem putS_len (l : List ByteArray) (s : ByteArray) : (putS l s).length ≤ l.length + 1 := by
 unfold putS
 split
 ·omega
 ·have := take_drop_while (p := (ltS · s)) l
  rw [List.length_append, List.length_cons]; omega
theorem putAll_len (kv : List ByteArray) : ∀ acc : List ByteArray, (putAll acc kv).length ≤ acc.length + kv.length := by
 induction kv with
 | nil => intro acc; exact Nat.le_refl _
 | cons s kv ih => intro acc; have h1 := ih (putS acc s); have h2 := putS_len acc s; simp only [putAll, List.foldl_cons, List.length_cons] at *; omega
def varsOf (n : Nd) (l : List (List ByteArray)) : List ByteArray := l.foldl putAll (if n.var.size = 0 then [] else putS [] n.var)
def Nd.vars (n : Nd) : List ByteArray := n.para varsOf
theorem Nd.vars_eq (n : Nd) : n.vars = varsOf n (n.kids.map Nd.vars) := Nd.para_eq _ n
theorem foldAll_len (l : List (List ByteArray)) : ∀ acc : List ByteArray, (l.foldl putAll acc).length ≤ acc.length + (l.map List.length).sum := by
 induction l with
 | nil => intro acc; exact Nat.le_refl _
 | cons s l ih => intro acc; have h1 := ih (putAll acc s); have h2 := putAll_len s acc; simp only [List.foldl_cons, List.map_cons, List.sum_cons] at *; omega
def Nd.v0 (n : Nd) : List ByteArray := if n.var.size = 0 then [] else putS [] n.var
theorem Nd.v0_len (n : Nd) : n.v0.length ≤ 1 := by
 unfold Nd.v0
 split
 ·exact Nat.zero_le _
 ·have := putS_len [] n.var; simpa using this
theorem Nd.vars_size : ∀ n : Nd, n.vars.length ≤ n.size := Nd.ind fun n ih => by
 rw [Nd.vars_eq, Nd.size_eq]
 have h1 := foldAll_len (n.kids.map Nd.vars) n.v0
 have h2 := n.v0_len
 rw [List.map_map] at h1
 have h3 := sum_le (f := List.length ∘ Nd.vars) (g := Nd.size) (ks := n.kids) ih
 unfold varsOf
 unfold Nd.v0 at *
 omega
def meets (kv ov : List ByteArray) : Bool := ov.any (hasS kv)
def bindsFrom (k : Bool) : List (List ByteArray) → List (Int × List ByteArray) → Int
  | _, [] => 0
  | seen, (e, kv) :: r => if e = 0 then (if k && seen.any (meets kv) then 73 else bindsFrom k (seen ++ [kv]) r) else e
def twin (n : Nd) : Bool := decide (n.kind = 2 ∨ n.kind = 3)
def Nd.binds (n : Nd) : Int := n.para fun n l => bindsFrom (twin n) [] (l.zip (n.kids.map Nd.vars))
def bindOf (x : Nd) : Int × List ByteArray := (x.binds, x.vars)
theorem Nd.binds_eq (n : Nd) : n.binds = bindsFrom (twin n) [] (n.kids.map bindOf) := by
 rw [Nd.binds, Nd.para_eq]
 congr 1
 have : ∀ ks : List Nd, (ks.map (fun x => Nd.para (fun n l => bindsFrom (twin n) [] (l.zip (n.kids.map Nd.vars))) x)).zip (ks.map Nd.vars) = ks.map bindOf := fun ks => by
  induction ks with
  | nil => rfl
  | cons x xs ih => rw [List.map_cons, List.map_cons, List.zip_cons_cons, ih]; rfl
 exact this _
theorem kid_drop {n : Nd} {i : Nat} {x : Nd} (hx : n.kids[i]? = some x) : n.kids.drop i = x :: n.kids.drop (i + 1) := by
 obtain ⟨hi, h⟩ := List.getElem?_eq_some_iff.1 hx
 rw [List.drop_eq_getElem_cons hi, h]
structure Pat where
  name : ByteArray
  within : Int
  node : Nd
  conds : List Cnd
def encPat (p : Pat) : List V := [.c (.string p.name), .c (.int .i64 p.within), .c (.int .i64 p.node.kind), .c (.string p.node.var), .c (.string p.node.type), .sl (p.node.tests.map encC), .sl (p.node.kids.map encNd), .sl (p.conds.map encC)]
structure okPat (p : Pat) : Prop where
  name : p.name.size < 4611686018427387904
  small : p.node.small
  ok : p.node.ok
  len : p.conds.length < 4611686018427387904
  conds : ∀ c ∈ p.conds, okC c
def patOwn (p : Pat) : Bool := !isName p.name || decide (p.within < 1) || decide (p.within > 1099511627776)
def patErr (p : Pat) : Int := if patOwn p then 70 else if p.node.shape = 0 then (if p.node.binds = 0 then cndsErr p.node.vars p.conds else p.node.binds) else p.node.shape
end Go.Abs.M
namespace Go.Abs
open Go
section
variable {P : Program} {n : Nat} {s : St} {σ : Hp}
variable [Mode]
def Cx.im (I : Nat → Prop) : Cx := ⟨I, fun _ => undef, fun _ => 0, 0, fun _ => 0⟩
structure Newer (W W' : World) : Prop where
  os : W'.os = W.os
  tape : W'.tape = W.tape
  output : W'.output = W.output ∧ (Mode.dm → W.drawn ≤ W'.drawn)
  size : W.heap.size ≤ W'.heap.size
  block : ∀ g, g < W.heap.size → W'.heap[g]? = W.heap[g]?
theorem Newer.refl (W : World) : Newer W W := ⟨rfl, rfl, ⟨rfl, fun _ => Nat.le_refl _⟩, Nat.le_refl _, fun _ _ => rfl⟩
def Base.it (cx : Cx) (w : World) : Base := { cx := cx, F := fun _ => False, w := w, g := fun _ => False, o := fun _ => False, nd := true }
end
end Go.Abs
namespace Go.Abs
open Go Go.RowKit
section
variable {P : Program} {n : Nat} {s s' : St} {σ σ' : Hp} {B : Base} {cx cx' : Cx} {a a' : Act} {w w' : World}
variable [Mode]
theorem foot_none {g : Nat} {l : Nat → Option (List V)} (h : foot cx σ (fun _ => none) g) : foot cx σ l g := by
 rcases h with h | ⟨d, c, hd, _⟩
 ·exact .inl h
 ·cases hd
structure Free (B : Base) (cx : Cx) (σ : Hp) (l : Nat → Option (List V)) (w : World) (r : Nat) (o : Obj) : Prop where
  at' : w.heap[r]? = some o
  new : B.w.heap.size ≤ r
  foot : ¬ foot cx σ l r
  imm : ¬ cx.I r
theorem Free.keep {l l' : Nat → Option (List V)} {r : Nat} {o : Obj} (h : Free B cx σ l w r o) (hx : Ext cx (Abs.foot cx σ l) w cx' (Abs.foot cx' σ' l') w') : Free B cx' σ' l' w' r o :=
 have hlt := lt_of_block h.at'
 ⟨(hx.block r hlt h.foot).trans h.at', h.new, fun hf => (hx.fnew r hf).elim h.foot (fun hs => by omega), fun hi => (hx.inew r hi).elim h.imm (fun h6 => h6.elim h.foot (fun hs => by omega))⟩
theorem Free.bare {l : Nat → Option (List V)} {r : Nat} {o : Obj} (h : Free B cx σ l w r o) : Free B cx σ (fun _ => none) w r o := ⟨h.at', h.new, fun hf => h.foot (foot_none hf), h.imm⟩
theorem Free.put {l : Nat → Option (List V)} {r q : Nat} {o o' : Obj} (h : Free B cx σ l w r o) (hne : r ≠ q) : Free B cx σ l (w.putObj q o') r o := ⟨(World.putObj_heap_other hne).trans h.at', h.new, h.foot, h.imm⟩
theorem Free.set {l : Nat → Option (List V)} {r : Nat} {o : Obj} (o' : Obj) (h : Free B cx σ l w r o) : Free B cx σ l (w.putObj r o') r o' := ⟨World.putObj_heap_same (lt_of_block h.at'), h.new, h.foot, h.imm⟩
variable {T : Tab} {Q : Exit → St → Hp → Prop}
end
end Go.Abs
namespace Go.Abs
open Go
section
variable {P : Program}
variable [Mode]
theorem ACalls.bare {f : FuncId} {args : List V} {R : V → Hp → Prop} {R' : V → Prop} (h : ACalls P f args Hp.empty R) (hr : ∀ v σ', R v σ' → R' v) : PCalls P f args R' :=
 ⟨h.1, fun cx w xs hH ha => (h.2 cx w xs hH ha).mono fun e w' ⟨v, r, cx', σ', h1, h2, h3, h4⟩ =>
  ⟨v, r, cx', Hp.empty, h1, h2, ⟨h3.heap.sub (fun _ _ h => by cases h) (fun _ _ h => by cases h), ⟨h3.ext.os, h3.ext.tape, h3.ext.output, h3.ext.size, h3.ext.block, h3.ext.le, h3.ext.inew, fun g hg => (own_empty hg).elim⟩, fun k x hk => (by cases hk), fun g x hx => (by cases hx)⟩, rfl, hr v σ' h4⟩⟩
end
end Go.Abs
namespace Go.Abs
open Go
section
variable {P : Program} {σ : Hp}
variable [Mode]
theorem ACalls.keepH {f : FuncId} {args : List V} {R R' : V → Hp → Prop} (h : ACalls P f args σ R)
  (hr : ∀ v σ', R v σ' → (∀ g c, σ.obj g = some c → σ'.obj g = some c) ∧ (∀ k x, σ.gr k = some x → σ'.gr k = some x) ∧ R' v σ) : ACalls P f args σ R' :=
 ⟨h.1, fun cx w xs hH ha => (h.2 cx w xs hH ha).mono fun e w' ⟨v, r, cx', σ', h1, h2, h3, h4⟩ => by
  obtain ⟨ho, hg, hR⟩ := hr v σ' h4
  exact ⟨v, r, cx', σ, h1, h2, ⟨h3.heap.sub ho hg, ⟨h3.ext.os, h3.ext.tape, h3.ext.output, h3.ext.size, h3.ext.block, h3.ext.le, h3.ext.inew, fun g hg' => h3.ext.fnew g (own_sub ho hg hg')⟩, fun k x hk => .inl ⟨x, hk⟩, fun g x hx => .inl ⟨x, hx⟩⟩, hR⟩⟩
end
end Go.Abs
namespace Go.Abs
open Go
section
variable {P : Program} {σ : Hp} {cx : Cx} {w : World}
variable [Mode]
def thaw (σ : Hp) : Nat → V → V
  | 0, v => v
  | n + 1, .gl k => match σ.gr k with
    | some (_, es) => .sl (es.map fun e => e.map (thaw σ n))
    | none => .gl k
  | n + 1, .agg vs => .agg (vs.map (thaw σ n))
  | n + 1, .tup vs => .tup (vs.map (thaw σ n))
  | n + 1, .fn f us vs => .fn f (us.map (thaw σ n)) (vs.map (thaw σ n))
  | _ + 1, v => v
def Cx.lent (cx : Cx) (σ : Hp) : Cx := { cx with I := fun g => cx.I g ∨ σ.own cx g }
theorem Cx.le_lent : cx.le (cx.lent σ) := ⟨fun _ h => .inl h, Nat.le_refl _, fun _ _ => rfl, fun _ _ => rfl⟩
theorem HR.lent (h : HR cx σ w) : HR (cx.lent σ) Hp.empty w where
 obj g c hc := by cases hc
 gr k T es hk := by cases hk
 two k k' x x' g hk := by cases hk
 mix k x g c hk := by cases hk
 apart g hg := (own_empty hg).elim
 ilt g hg := hg.elim (h.ilt g) h.own_lt
theorem map_get {α β : Type} {f : α → β} {l : List α} {i : Nat} {y : β} (h : (l.map f)[i]? = some y) : ∃ x, l[i]? = some x ∧ f x = y := by
 simpa [Option.map_eq_some_iff] using h
theorem thaw_VR (h : HR cx σ w) : ∀ (n : Nat) (v : V) (x : Value), VR w cx v x → VR w (cx.lent σ) (thaw σ n v) x
  | 0, v, x, hv => hv.keep (fun _ _ => rfl) Cx.le_lent
  | n + 1, v, x, hv => by
    have base : ∀ {u : V} {y : Value}, VR w cx u y → VR w (cx.lent σ) u y := fun hu => hu.keep (fun _ _ => rfl) Cx.le_lent
    cases hv with
    | c x => exact .c x
    | nils => exact .nils
    | nile a => exact .nile a
    | sl f hI hcap hlen hc hr h1 => exact base (.sl f hI hcap hlen hc hr h1)
    | ip f hI hi hlen hc hr h1 => exact base (.ip f hI hi hlen hc hr h1)
    | gp hk hg => exact base (.gp hk hg)
    | gv hk hg hn => exact base (.gv hk hg hn)
    | agg h1 hn hh =>
      refine .agg h1 (by simpa using hn) fun i v x hv hx => ?_
      obtain ⟨u, hu, rfl⟩ := map_get hv
      exact thaw_VR h n _ _ (hh i u x hu hx)
    | tup hn hh =>
      refine .tup (by simpa using hn) fun i v x hv hx => ?_
      obtain ⟨u, hu, rfl⟩ := map_get hv
      exact thaw_VR h n _ _ (hh i u x hu hx)
    | fn hn hh hm hg =>
      refine .fn (by simpa using hn) (fun i v x hv hx => ?_) (by simpa using hm) fun i v x hv hx => ?_
      · obtain ⟨u, hu, rfl⟩ := map_get hv
        exact thaw_VR h n _ _ (hh i u x hu hx)
      · obtain ⟨u, hu, rfl⟩ := map_get hv
        exact thaw_VR h n _ _ (hg i u x hu hx)
    | @gl k hk hs =>
      simp only [thaw]
      split
      · rename_i T es hg
        obtain ⟨hkn, hZ, hel, xs, hown, hxs⟩ := h.gr k T es hg
        rcases hown.2 with ⟨hM, h0⟩ | ⟨g, cap, cur, hM, _, hbl, hcap, _, hcs, htk⟩
        · have : es = [] := List.eq_nil_of_length_eq_zero h0
          subst this
          rw [hM]; exact .nils
        · have hg' : (cx.M k).ownBlock = some g := by rw [hM]; rfl
          rw [hM]
          have hcap' : (es.map fun e => e.map (thaw σ n)).length ≤ cap := by simpa using hcap
          have hr : VRs w (cx.lent σ) (es.map fun e => e.map (thaw σ n)).flatten xs := by
            have hfl : (es.map fun e => e.map (thaw σ n)).flatten = es.flatten.map (thaw σ n) := by simp [List.map_flatten]
            rw [hfl]
            refine ⟨by rw [List.length_map]; exact hxs.1, hxs.2.1, fun i v x hv hx => ?_⟩
            obtain ⟨u, hu, rfl⟩ := map_get hv
            exact thaw_VR h n _ _ (hxs.2.2 i u x hu hx)
          have := VR.sl_of_row (w := w) (cx := cx.lent σ) (es := es.map fun e => e.map (thaw σ n)) (sz := cx.Z k) (b := g) (o := 0) (cap := cap) (.inr (.inr ⟨k, _, hg, hg'⟩)) hcap' (fun e he => by
            obtain ⟨e', he', rfl⟩ := List.mem_map.1 he
            simpa using hel e' he') hr (fun j x hj => by
            rw [cell_of_row w g (0 + j) cur _ _ hbl, Nat.zero_add]
            have hj' : xs[j]? = (cur.toList.take (es.length * cx.Z k))[j]? := by rw [htk]
            rw [hj'] at hj
            rw [List.getElem?_take] at hj
            split at hj
            · simpa using hj
            · cases hj)
          simpa using this
      · exact base (.gl hk hs)
def konst : V → Bool
  | .c _ => true
  | .agg vs => vs.all fun v => match v with | .c _ => true | _ => false
  | .tup vs => vs.all fun v => match v with | .c _ => true | .agg us => us.all (fun u => match u with | .c _ => true | _ => false) | _ => false
  | _ => false
theorem konst_VR {w w' : World} {cx cx' : Cx} {v : V} {x : Value} (h : VR w cx v x) (hk : konst v = true) : VR w' cx' v x := by
  have one : ∀ {u : V} {y : Value}, VR w cx u y → (match u with | .c _ => true | _ => false) = true → VR w' cx' u y := fun {u y} hu hh => by
    cases hu <;> first | exact .c _ | cases hh
  have two : ∀ {us : List V} {y : Value}, VR w cx (.agg us) y → (us.all fun v => match v with | .c _ => true | _ => false) = true → VR w' cx' (.agg us) y := fun {us y} hu hh => by
    cases hu with
    | agg h1 hn h => exact .agg h1 hn fun i v x hv hx => one (h i v x hv hx) (List.all_eq_true.1 hh v (List.mem_of_getElem? hv))
  cases v with
  | c y => cases h; exact .c _
  | agg vs => exact two h hk
  | tup vs =>
    cases h with
    | tup hn h =>
      refine .tup hn fun i v x hv hx => ?_
      have hv1 := h i v x hv hx
      have hk1 := List.all_eq_true.1 hk v (List.mem_of_getElem? hv)
      cases v with
      | c y => cases hv1; exact .c _
      | agg us => exact two hv1 hk1
      | _ => cases hk1
  | _ => cases hk
theorem PCalls.lendAll {f : FuncId} {args : List V} {R : V → Prop} (n : Nat) (h : PCalls P f (args.map (thaw σ n)) R) (hR : ∀ v, R v → konst v = true) :
  ACalls P f args σ (fun v σ' => σ' = σ ∧ R v) := by
 refine ⟨h.1, fun cx w xs hH ha => ?_⟩
 have ha1 : VAs w (cx.lent σ) (args.map (thaw σ n)) xs := ⟨by simpa using ha.1, fun i v x hi hx => by
  obtain ⟨u, hu, rfl⟩ := map_get hi
  exact thaw_VR hH n u x (ha.2 i u x hu hx)⟩
 refine (h.2 (cx.lent σ) w xs hH.lent ha1).mono fun e w' ⟨v, r, cx2, σ2, h1, h2, h3, h4, h5⟩ => ?_
 subst h4
 have hb : ∀ g, g < w.heap.size → w'.heap[g]? = w.heap[g]? := fun g hg => h3.ext.block g hg own_empty
 exact ⟨_, r, cx, σ, h1, konst_VR h2 (hR v h5), ⟨hH.new (.refl _) (fun g hg => .inl hg) h3.ext.size hb, ⟨h3.ext.os, h3.ext.tape, h3.ext.output, h3.ext.size, fun g hg _ => hb g hg, .refl _, fun g hg => .inl hg, fun g hg => .inl hg⟩, fun _ x hk => .inl ⟨x, hk⟩, fun _ x hk => .inl ⟨x, hk⟩⟩, rfl, h5⟩
end
end Go.Abs
namespace Go.Abs
open Go
section
variable {P : Program} {σ σ0 σ1 : Hp} {cx cx' : Cx} {w w' : World}
variable [Mode]
structure Hp.Le (σ0 σ : Hp) : Prop where
  obj : ∀ g c, σ0.obj g = some c → σ.obj g = some c
  gr : ∀ k x, σ0.gr k = some x → σ.gr k = some x
theorem Hp.Le.refl (σ : Hp) : Hp.Le σ σ := ⟨fun _ _ h => h, fun _ _ h => h⟩
theorem Hp.Le.empty (σ : Hp) : Hp.Le Hp.empty σ := ⟨fun _ _ h => (by cases h), fun _ _ h => (by cases h)⟩
theorem Hp.Le.own {g : Nat} (h : Hp.Le σ0 σ) (hg : σ0.own cx g) : σ.own cx g := own_sub h.obj h.gr hg
theorem over_obj {g : Nat} {c : List V} (h : (σ1.over σ σ0).obj g = some c) : σ1.obj g = some c ∨ (σ1.obj g = none ∧ σ0.obj g = none ∧ σ.obj g = some c) := by
 simp only [Hp.over] at h
 split at h
 ·exact .inl (by rename_i e; rw [e, h])
 ·rename_i e
  split at h
  ·cases h
  ·exact .inr ⟨e, ‹_›, h⟩
theorem over_gr {k : Nat} {x : (TypeId × Nat) × List (List V)} (h : (σ1.over σ σ0).gr k = some x) : σ1.gr k = some x ∨ (σ1.gr k = none ∧ σ0.gr k = none ∧ σ.gr k = some x) := by
 simp only [Hp.over] at h
 split at h
 ·exact .inl (by rename_i e; rw [e, h])
 ·rename_i e
  split at h
  ·cases h
  ·exact .inr ⟨e, ‹_›, h⟩
theorem HR.beside_gr (hH : HR cx σ w) (hs : Hp.Le σ0 σ) {k g : Nat} {x : (TypeId × Nat) × List (List V)} (h0 : σ0.gr k = none) (hk : σ.gr k = some x) (hg : (cx.M k).ownBlock = some g) : ¬ σ0.own cx g := by
 rintro (⟨c, hc⟩ | ⟨j, y, hj, hb⟩)
 ·exact hH.mix k x g c hk (hs.obj g c hc) hg
 ·have := hH.two k j x y g hk (hs.gr j y hj) hg hb
  subst this
  rw [h0] at hj; cases hj
theorem HR.beside_obj (hH : HR cx σ w) (hs : Hp.Le σ0 σ) {g : Nat} {c : List V} (h0 : σ0.obj g = none) (hg : σ.obj g = some c) : ¬ σ0.own cx g := by
 rintro (⟨c', hc⟩ | ⟨j, y, hj, hb⟩)
 ·rw [h0] at hc; cases hc
 ·exact hH.mix j y g c (hs.gr j y hj) hg hb
theorem Left.frame (hH : HR cx σ w) (hs : Hp.Le σ0 σ) (h : Left cx σ0 w cx' σ1 w') : Left cx σ w cx' (σ1.over σ σ0) w' := by
 have himm : ∀ g, cx.I g → w'.heap[g]? = w.heap[g]? := fun g hg => h.ext.block g (hH.ilt g hg) (fun ho => hH.apart g (hs.own ho) hg)
 have hle := h.ext.le
 have hfar : ∀ g, σ.own cx g → ¬ σ0.own cx g → ¬ σ1.own cx' g := fun g h1 h2 h3 => (h.ext.fnew g h3).elim h2 (fun h4 => by have := hH.own_lt h1; omega)
 have kM : ∀ k x, σ.gr k = some x → cx'.M k = cx.M k := fun k x hk => hle.M k (hH.gr k x.1 x.2 hk).1
 have hr : HR cx' (σ1.over σ σ0) w' := {
  obj := fun g c hc => by
   rcases over_obj hc with h1 | ⟨_, h0, h1⟩
   ·exact h.heap.obj g c h1
   ·obtain ⟨o, e1, e2⟩ := hH.obj g c h1
    exact ⟨o, (h.ext.block g (lt_of_block e1) (hH.beside_obj hs h0 h1)).trans e1, e2.keep himm hle⟩
  gr := fun k T es hk => by
   rcases over_gr hk with h1 | ⟨_, h0, h1⟩
   ·exact h.heap.gr k T es h1
   ·obtain ⟨a1, a0, a2, xs, a3, a4⟩ := hH.gr k T es h1
    refine ⟨Nat.lt_of_lt_of_le a1 hle.nm, by rw [hle.Z k a1]; exact a0, by rw [hle.Z k a1]; exact a2, xs, ?_, a4.keep himm hle⟩
    rw [hle.Z k a1, hle.M k a1]
    refine ⟨a3.1, ?_⟩
    rcases a3.2 with h5 | ⟨g, cap, cur, e1, e2, e3, e4⟩
    ·exact .inl h5
    ·exact .inr ⟨g, cap, cur, e1, e2, (h.ext.block g (lt_of_block e3) (hH.beside_gr hs h0 h1 (by rw [e1]; rfl))).trans e3, e4⟩
  two := fun k k' x x' g hk hk' h1 h2 => by
   rcases over_gr hk with a | ⟨_, a0, a⟩
   ·rcases over_gr hk' with b | ⟨_, b0, b⟩
    ·exact h.heap.two k k' x x' g a b h1 h2
    ·rw [kM k' x' b] at h2
     exact (hfar g (.inr ⟨k', x', b, h2⟩) (hH.beside_gr hs b0 b h2) (.inr ⟨k, x, a, h1⟩)).elim
   ·rw [kM k x a] at h1
    rcases over_gr hk' with b | ⟨_, b0, b⟩
    ·exact (hfar g (.inr ⟨k, x, a, h1⟩) (hH.beside_gr hs a0 a h1) (.inr ⟨k', x', b, h2⟩)).elim
    ·rw [kM k' x' b] at h2
     exact hH.two k k' x x' g a b h1 h2
  mix := fun k x g c hk hc h1 => by
   rcases over_gr hk with a | ⟨_, a0, a⟩
   ·rcases over_obj hc with b | ⟨_, b0, b⟩
    ·exact h.heap.mix k x g c a b h1
    ·exact hfar g (.inl ⟨c, b⟩) (hH.beside_obj hs b0 b) (.inr ⟨k, x, a, h1⟩)
   ·rw [kM k x a] at h1
    rcases over_obj hc with b | ⟨_, b0, b⟩
    ·exact hfar g (.inr ⟨k, x, a, h1⟩) (hH.beside_gr hs a0 a h1) (.inl ⟨c, b⟩)
    ·exact hH.mix k x g c a b h1
  apart := fun g hg hi => by
   have rest : ∀ g, σ.own cx g → ¬ σ0.own cx g → ¬ cx'.I g := fun g h1 h2 h3 => by
    rcases h.ext.inew g h3 with h4 | h4 | h4
    ·exact hH.apart g h1 h4
    ·exact h2 h4
    ·have := hH.own_lt h1; omega
   rcases hg with ⟨c, hc⟩ | ⟨k, x, hk, hb⟩
   ·rcases over_obj hc with b | ⟨_, b0, b⟩
    ·exact h.heap.apart g (.inl ⟨c, b⟩) hi
    ·exact rest g (.inl ⟨c, b⟩) (hH.beside_obj hs b0 b) hi
   ·rcases over_gr hk with a | ⟨_, a0, a⟩
    ·exact h.heap.apart g (.inr ⟨k, x, a, hb⟩) hi
    ·rw [kM k x a] at hb
     exact rest g (.inr ⟨k, x, a, hb⟩) (hH.beside_gr hs a0 a hb) hi
  ilt := h.heap.ilt }
 refine ⟨hr, ⟨h.ext.os, h.ext.tape, h.ext.output, h.ext.size, fun g hg hf => h.ext.block g hg (fun ho => hf (hs.own ho)), hle, fun g hg => (h.ext.inew g hg).imp id (Or.imp hs.own id), fun g hg => ?_⟩, fun k x hk => ?_, fun g x hg => ?_⟩
 ·rcases hg with ⟨c, hc⟩ | ⟨k, x, hk, hb⟩
  ·rcases over_obj hc with b | ⟨_, b0, b⟩
   ·exact (h.ext.fnew g (.inl ⟨c, b⟩)).imp hs.own id
   ·exact .inl (.inl ⟨c, b⟩)
  ·rcases over_gr hk with a | ⟨_, a0, a⟩
   ·exact (h.ext.fnew g (.inr ⟨k, x, a, hb⟩)).imp hs.own id
   ·rw [kM k x a] at hb
    exact .inl (.inr ⟨k, x, a, hb⟩)
 ·rcases over_gr hk with a | ⟨_, a0, a⟩
  ·exact (h.gnew k x a).imp (fun ⟨y, hy⟩ => ⟨y, hs.gr k y hy⟩) id
  ·exact .inl ⟨x, a⟩
 ·rcases over_obj hg with b | ⟨_, b0, b⟩
  ·exact (h.onew g x b).imp (fun ⟨y, hy⟩ => ⟨y, hs.obj g y hy⟩) id
  ·exact .inl ⟨x, b⟩
structure Hp.Fresh (σ1 σ0 σ : Hp) : Prop where
  obj : ∀ g c, σ1.obj g = some c → σ0.obj g = none → σ.obj g = none
  gr : ∀ k x, σ1.gr k = some x → σ0.gr k = none → σ.gr k = none
theorem ACalls.frame {f : FuncId} {args : List V} {R : V → Hp → Prop} (h : ACalls P f args σ0 R) (hs : Hp.Le σ0 σ) : ACalls P f args σ (fun v σ' => ∃ σ1, R v σ1 ∧ Hp.Fresh σ1 σ0 σ ∧ σ' = σ1.over σ σ0) :=
 ⟨h.1, fun cx w xs hH ha => (h.2 cx w xs (hH.sub hs.obj hs.gr) ha).mono fun e w' ⟨v, r, cx', σ1, h1, h2, h3, h4⟩ =>
  ⟨v, r, cx', _, h1, h2, h3.frame hH hs, σ1, h4, ⟨fun g c hc h0 => by
   rcases h3.onew g c hc with ⟨y, hy⟩ | hg
   ·rw [h0] at hy; cases hy
   ·cases e : σ.obj g with
    | none => rfl
    | some y => have := hH.own_lt (.inl ⟨y, e⟩); omega, fun k x hk h0 => by
   rcases h3.gnew k x hk with ⟨y, hy⟩ | hg
   ·rw [h0] at hy; cases hy
   ·cases e : σ.gr k with
    | none => rfl
    | some y => have := (hH.gr k y.1 y.2 e).1; omega⟩, rfl⟩⟩
end
end Go.Abs
namespace Go.Abs
open Go
section
variable {P : Program} {B : Base} {n : Nat} {cx : Cx} {s : St} {σ : Hp} {a : Act} {w : World} {Q : Exit → St → Hp → Prop}
variable [Mode]
def ipV (g : Nat) (cells : List V) : V → V
  | .c (.pointer (some ⟨b, o, none⟩)) => if b = g then .ip [cells] 0 o else .c (.pointer (some ⟨b, o, none⟩))
  | v => v
def St.ip (s : St) (g : Nat) (cells : List V) : St := ⟨fun t => ipV g cells (s.t t), s.l⟩
@[simp] theorem St.ip_t (s : St) (g : Nat) (cells : List V) (t : Nat) : (s.ip g cells).t t = ipV g cells (s.t t) := rfl
@[simp] theorem St.ip_l (s : St) (g : Nat) (cells : List V) (d : Nat) : (s.ip g cells).l d = s.l d := rfl
theorem VR.ip_off {es : List (List V)} {g o off : Nat} (h : VR w cx (.ip es 0 o) (.pointer (some ⟨g, o, none⟩))) : VR w cx (.ip es 0 off) (.pointer (some ⟨g, off, none⟩)) := by
  generalize hx : (.pointer (some ⟨g, o, none⟩) : Value) = x at h
  cases h with
  | @ip _ sz b o' _ _ f hI hi hlen hc hr h1 =>
    injection hx with hx; injection hx with hx; injection hx with hb ho
    subst hb
    have ho' : o' = 0 := by omega
    subst ho'
    have := VR.ip (w := w) (cx := cx) (es := es) (sz := sz) (b := g) (o := 0) (i := 0) (off := off) f hI hi hlen hc hr h1
    simpa using this
def bxV (d : Nat) (cells : List V) : V → V
  | .lp e o => if e = d then .ip [cells] 0 o else .lp e o
  | v => v
def St.bx (s : St) (d : Nat) (cells : List V) : St := ⟨fun t => bxV d cells (s.t t), fun e => if e = d then none else s.l e⟩
@[simp] theorem St.bx_t (s : St) (d : Nat) (cells : List V) (t : Nat) : (s.bx d cells).t t = bxV d cells (s.t t) := rfl
@[simp] theorem St.bx_l (s : St) (d : Nat) (cells : List V) (e : Nat) : (s.bx d cells).l e = if e = d then none else s.l e := rfl
theorem SR.hushBox (h : SR B n cx s σ a w) {d : Nat} {cells : List V} (hd : s.l d = some cells) (_hc : cells ≠ []) : SR B n (cx.addI (cx.L d)) (s.bx d cells) σ a w := by
 obtain ⟨T, cs, hb, hvs⟩ := h.box.box d cells hd
 obtain ⟨hai, hao⟩ := h.box.apart d cells hd
 have hle := cx.le_addI (cx.L d)
 have hH : HR (cx.addI (cx.L d)) σ w := h.heap.keep hle (fun _ => False) (fun _ h => h.elim) (fun _ h => h.elim) (fun g' (hg' : cx.I g' ∨ g' = cx.L d) ho => by
   rcases hg' with h1 | h1
   ·exact h.heap.apart g' ho h1
   ·exact hao (h1 ▸ ho)) (fun g' (hg' : cx.I g' ∨ g' = cx.L d) => by
   rcases hg' with h1 | h1
   ·exact h.heap.ilt g' h1
   ·rw [h1]; exact lt_of_block hb) (fun _ _ _ => rfl)
 have hip : VR w (cx.addI (cx.L d)) (.ip [cells] 0 0) (.pointer (some ⟨cx.L d, 0, none⟩)) := by
  have hvk := hvs.keep (w' := w) (cx' := cx.addI (cx.L d)) (fun _ _ => rfl) hle
  have := VR.ip (w := w) (cx := cx.addI (cx.L d)) (es := [cells]) (sz := cells.length) (b := cx.L d) (o := 0) (i := 0) (off := 0) (fun i j => cs.getD j undef) (.inr rfl) (by simp)
   (fun i e he => by
    rcases i with _ | i
    ·simp at he; rw [← he]
    ·simp at he)
   (fun i j hi hj => by
    have h0 : i = 0 := by simp at hi; exact hi
    subst h0
    have hjl : j < cs.length := by rw [← hvs.1]; exact hj
    simp [World.cell?, hb, List.getD, hjl])
   (fun i e j v he hv => by
    rcases i with _ | i
    ·simp at he; subst he
     have hjl : j < cs.length := by rw [← hvs.1]; exact (List.getElem?_eq_some_iff.1 hv).1
     exact hvk.2.2 j v _ hv (by simp [List.getD, hjl])
    ·simp at he)
   (fun i j hi hj => by
    have hjl : j < cs.length := by rw [← hvs.1]; exact hj
    exact hvs.2.1 _ (by simp only [List.getD, List.getElem?_eq_getElem hjl]; exact List.getElem_mem _))
  simpa using this
 have hl : ∀ e c, (s.bx d cells).l e = some c → e ≠ d ∧ s.l e = some c := fun e c he => by
  rw [St.bx_l] at he
  split at he
  ·cases he
  ·exact ⟨‹_›, he⟩
 have hfoot : ∀ g', foot (cx.addI (cx.L d)) σ (s.bx d cells).l g' → foot cx σ s.l g' := fun g' hf => by
  rcases hf with hf | ⟨e, c, he, e'⟩
  ·exact .inl hf
  ·exact .inr ⟨e, c, (hl e c he).2, e'⟩
 have hgo : foot cx σ s.l (cx.L d) := .inr ⟨d, cells, hd, rfl⟩
 refine ⟨h.size, h.defers.mono hfoot (fun g' hi => ?_), h.nd, fun t => ?_, hH, ?_, ?_, h.gnew, h.onew, h.stab, h.stN, fun e c he hs => h.stS e c (hl e c he).2 hs⟩
 ·rcases (show cx.I g' ∨ g' = cx.L d from hi) with hi | rfl
  ·exact .inl hi
  ·exact .inr hgo
 ·have ht := h.tmp t
  show TR w (cx.addI (cx.L d)) (bxV d cells (s.t t)) (a.tmps.getD t undef)
  generalize s.t t = v at ht
  generalize a.tmps.getD t undef = x at ht
  have keep : TR w (cx.addI (cx.L d)) v x := by
   cases ht with
   | v hv => exact .v (hv.keep (fun _ _ => rfl) hle)
   | lp e off => exact .lp (cx := cx.addI (cx.L d)) e off
   | junk => exact .junk _
  unfold bxV
  split
  ·rename_i e o
   split
   ·rename_i e'
    subst e'
    cases ht with
    | v hv => cases hv
    | lp => exact .v hip.ip_off
   ·exact keep
  ·exact keep
 ·refine ⟨fun e c he => ?_, fun e c he => ⟨fun hi => ?_, fun ho => (h.box.apart e c (hl e c he).2).2 ho⟩, fun e e' c c' he he' => h.box.inj e e' c c' (hl e c he).2 (hl e' c' he').2⟩
  ·obtain ⟨T, cs, h1, h2⟩ := h.box.box e c (hl e c he).2
   exact ⟨T, cs, h1, h2.keep (fun _ _ => rfl) hle⟩
  ·rcases (show cx.I (cx.L e) ∨ cx.L e = cx.L d from hi) with hi | hi
   ·exact (h.box.apart e c (hl e c he).2).1 hi
   ·exact (hl e c he).1 (h.box.inj e d c cells (hl e c he).2 hd hi)
 ·have he := h.ext
  refine ⟨he.os, he.tape, he.output, he.size, he.block, he.le.trans hle, fun g' hi => ?_, fun g' hf => he.fnew g' (hfoot g' hf)⟩
  rcases (show cx.I g' ∨ g' = cx.L d from hi) with hi | rfl
  ·exact he.inew g' hi
  ·rcases he.fnew _ hgo with h1 | h1
   ·exact .inr (.inl h1)
   ·exact .inr (.inr h1)
theorem AW.hushBox {c : Code} {d : Nat} {cells : List V} (hd : s.l d = some cells) (hc : cells ≠ []) (h : AW P n c Q (s.bx d cells) σ) : AW P n c Q s σ :=
 fun B cx a w h1 h2 h3 => h B (cx.addI (cx.L d)) a w h1 h2 (h3.hushBox hd hc)
end
end Go.Abs
namespace Go.Abs
open Go
section
variable {P : Program} {F : Fence} {m n : Nat} {r : Option Nat} {s : St} {σ : Hp} {Q : Exit → St → Hp → Prop}
variable [Mode]
theorem wpIn_loop_rel {c : Code} {a : Act} {w : World} {Q : Exit → Act → World → Prop} (I : Nat → Act → World → Prop) (h₀ : ∃ m, I m a w)
    (round : ∀ m a w, I m a w → c.wpIn F n P (Exit.then (fun a' w' => ∃ m', m' < m ∧ I m' a' w') Q) a w) : (Code.loop c).wpIn F n P Q a w := by
  intro b k cs hro hb hr
  have key : ∀ m a w, I m a w → ∃ e a' w', Q e a' w' ∧ ArrivesIn (Machine.fenced P F) P (lone (b.atR a (.code c :: .inLoop c :: k)) cs w) b k cs e a' w' := by
    intro m
    induction m using Nat.strongRecOn with
    | _ m ih =>
      intro a w hI
      obtain ⟨e, a₁, w₁, hq, harr⟩ := round m a w hI b (.inLoop c :: k) cs hro hb hr
      cases e with
      | normal =>
        obtain ⟨m', hlt, hI₁⟩ := hq
        obtain ⟨e₂, a₂, w₂, hq₂, harr₂⟩ := ih m' hlt a₁ w₁ hI₁
        exact ⟨e₂, a₂, w₂, hq₂, .of_steps (StepsIn.trans harr (.one (fenced_calm hb hr rfl) stepR_inLoop)) harr₂⟩
      | exit id => exact ⟨_, a₁, w₁, hq, .pass (x := .inLoop c) rfl (fun _ _ => .inl (by simp)) harr⟩
      | goto l => exact ⟨_, a₁, w₁, hq, .pass (x := .inLoop c) rfl (fun _ _ => .inl (by simp)) harr⟩
      | ret => exact ⟨_, a₁, w₁, hq, .pass (x := .inLoop c) rfl (fun _ _ => .inl (by simp)) harr⟩
      | panic ch => exact ⟨_, a₁, w₁, hq, .pass (x := .inLoop c) rfl (fun _ _ => .inl (by simp)) harr⟩
      | outgrown => exact ⟨_, a₁, w₁, hq, .pass (x := .inLoop c) rfl (fun _ _ => .inl (by simp)) harr⟩
  obtain ⟨m, hm⟩ := h₀
  obtain ⟨e, a', w', hq, harr⟩ := key m a w hm
  exact ⟨e, a', w', hq, .of_steps (.one (fenced_calm hb hr rfl) stepR_loop) harr⟩
theorem AWR.loop {c : Code} (I : Nat → St → Hp → Prop) (m : Nat) (h0 : I m s σ) (hr : ∀ m s σ, I m s σ → AWR P n r c (thenS (fun s' σ' => ∃ m', m' < m ∧ I m' s' σ') Q) s σ) : AWR P n r (.loop c) Q s σ :=
 fun B cx a w h1 h2 h3 => wpIn_loop_rel (fun m a w => ∃ cx s σ, SR B n cx s σ a w ∧ I m s σ) ⟨m, cx, s, σ, h3, h0⟩ fun m a w ⟨cx, s, σ, h4, h5⟩ =>
  wpIn_mono (hr m s σ h5 B cx a w h1 h2 h4) fun e a' w' ⟨cx', s', σ', h6, h7⟩ => by
   cases e with
   | normal => obtain ⟨m', hm, hI⟩ := h7; exact ⟨m', hm, cx', s', σ', h6, hI⟩
   | _ => exact ⟨cx', s', σ', h6, h7⟩
theorem AWR.seq_j {x y : Code} (J : St → Hp → Prop) (h : AWR P n r x (thenS J Q) s σ) (hy : ∀ s σ, J s σ → AWR P n r y Q s σ) : AWR P n r (.seq x y) Q s σ :=
 .seq (h.mono fun e s σ hq => by
  cases e with
  | normal => exact hy s σ hq
  | _ => exact hq)
end
end Go.Abs
namespace Go.Abs
open Go
variable [Mode]
omit [Mode] in
theorem VAs.consts {w : World} {cx : Cx} {vs xs : List Value} (h : VAs w cx (vs.map V.c) xs) : xs = vs := by
 obtain ⟨hl, h⟩ := h
 rw [List.length_map] at hl
 have key : ∀ x y, VR w cx (.c x) y → y = x := fun _ _ h => by cases h; rfl
 apply List.ext_getElem?
 intro i
 by_cases hi : i < vs.length
 ·have hx : i < xs.length := by rw [← hl]; exact hi
  have h1 : (vs.map V.c)[i]? = some (V.c vs[i]) := by rw [List.getElem?_map, List.getElem?_eq_getElem hi]; rfl
  have h2 := h i _ _ h1 (List.getElem?_eq_getElem hx)
  rw [List.getElem?_eq_getElem hi, List.getElem?_eq_getElem hx]
  rw [key _ _ h2]
 ·rw [List.getElem?_eq_none (by omega), List.getElem?_eq_none (by omega)]
end Go.Abs
namespace Go.Abs.M
open Go Go.Abs Go.Proofs
variable [Mode]
set_option maxRecDepth 20000
def cmpS (a b : ByteArray) : Int := if Op.bytesLess a.toList b.toList then -1 else if (Op.bytesLess a.toList b.toList || a.toList == b.toList) then 0 else 1
theorem isnan_spec (a : ByteArray) : PCalls Tryz.prog 171 [.c (.string a)] (fun v => v = .c (.bool false)) := by
 refine PCalls.intro Tryz.call171 Tryz.func171 rfl Tryz.ntmps171 Tryz.results171 (by simp) ?_
 all_goals refine AW.sr trivial ?_
 all_goals refine AW.sr trivial ?_
 refine AW.ret ?_
 all_goals simp only [zs, simprocAttr]
 all_goals simp
def encI (n : Int) : List V := [.c (.int .i64 n)]
def minL (a : Int) (r : List Int) : Int := r.foldl (fun m b => if b < m then b else m) a
def maxL (a : Int) (r : List Int) : Int := r.foldl (fun m b => if m < b then b else m) a
def beginOf (l : List Bd) : Int := match l.map (·.ev.time) with
  | [] => 0
  | a :: r => minL a r
def endOf (l : List Bd) : Int := match l.map (·.ev.time) with
  | [] => 0
  | a :: r => maxL a r
def hpB (k : Nat) (l : List Bd) : Hp := Hp.empty.setGr k (some ((156, 6), l.map encBd))
def Sub (l0 l : List Bd) : Prop := l.length = l0.length ∧ ∀ x ∈ l, x ∈ l0
theorem Sub.refl (l : List Bd) : Sub l l := ⟨rfl, fun _ h => h⟩
theorem Sub.trans {a b c : List Bd} (h : Sub a b) (k : Sub b c) : Sub a c := ⟨k.1.trans h.1, fun x hx => h.2 x (k.2 x hx)⟩
def own (s : St) (σ : Hp) (t : Nat) (l : List Bd) : Prop := (l = [] ∧ s.t t = .c (.slice none 0 0) ∧ σ = Hp.empty) ∨ ∃ g, s.t t = .gl g ∧ σ = hpB g l
theorem bytesLess_eq' : ∀ (x y : List UInt8), Op.bytesLess x y = decide (x < y)
  | [], [] => by simp [Op.bytesLess]
  | _ :: _, [] => by simp [Op.bytesLess]
  | [], _ :: _ => by simp [Op.bytesLess]
  | a :: x, b :: y => by
    rw [Op.bytesLess, bytesLess_eq' x y]
    simp only [List.cons_lt_cons_iff]
    by_cases h1 : a < b <;> by_cases h2 : a = b <;> by_cases h3 : x < y <;> simp [h1, h2, h3]
def Srt : List Bd → Prop
  | [] => True
  | x :: p => (∀ y ∈ p, leS x.var y.var = true) ∧ Srt p
theorem Srt.append {p q : List Bd} (h : Srt (p ++ q)) : Srt p ∧ Srt q ∧ ∀ x ∈ p, ∀ y ∈ q, leS x.var y.var = true := by
  induction p with
  | nil => exact ⟨trivial, h, fun x hx => by cases hx⟩
  | cons x p ih =>
    obtain ⟨h1, h2⟩ := h
    obtain ⟨a, b, c⟩ := ih h2
    refine ⟨⟨fun y hy => h1 y (List.mem_append_left _ hy), a⟩, b, fun z hz y hy => ?_⟩
    rcases List.mem_cons.1 hz with rfl | hz
    · exact h1 y (List.mem_append_right _ hy)
    · exact c z hz y hy
theorem allEq_refl {α : Type} {f : α → α → Bool} (h : ∀ x, f x x = true) : ∀ l : List α, allEq f l l = true
 | [] => rfl
 | x :: l => by simp [allEq, h, allEq_refl h l]
structure okI (l : List Bd) : Prop where
  ok : okP l
  attrs : ∀ x ∈ l, x.ev.attrs.length * 48 ≤ 140737488355328
  len : l.length * 80 ≤ 140737488355328
structure okM (l : List Bd) : Prop where
  ok : okP l
  attrs : ∀ x ∈ l, x.ev.attrs.length * 48 ≤ 140737488355328
theorem okI.m {l : List Bd} (h : okI l) : okM l := ⟨h.ok, h.attrs⟩
def cmpI (a b : Int) : Int := if a < b then -1 else if b < a then 1 else 0
def orI : List Int → Int
  | [] => 0
  | a :: l => if a ≠ 0 then a else orI l
def cmpId (a b : Int × Int) : Int := orI [cmpI a.1 b.1, cmpI a.2 b.2]
def cmpV (a b : Val) : Int × Bool := if a.kind = 1 ∧ b.kind = 1 then (cmpI a.n b.n, true) else if a.kind = 2 ∧ b.kind = 2 then (cmpS a.s b.s, true) else (0, false)
def someV (a : Val) : Bool := decide (a.kind = 1 ∨ a.kind = 2)
def relB (rel n : Int) : Bool := if rel = 1 then n == 0 else if rel = 2 then !(n == 0) else if rel = 3 then decide (n < 0) else if rel = 4 then decide (n ≤ 0) else if rel = 5 then decide (n > 0) else if rel = 6 then decide (n ≥ 0) else false
def holdsV (rel : Int) (a b : Val) : Bool := if (cmpV a b).2 then relB rel (cmpV a b).1 else decide (rel = 2) && someV a && someV b
end Go.Abs.M
namespace Go.Abs
open Go Go.MapKept
open Go.WideElems (Fit rd rg pl rd_val elemAt)
def isStr : Value → Bool
  | .string _ => true
  | _ => false
theorem bytes_eq_iff (a b : ByteArray) : (a.toList == b.toList) = (a == b) := by
 rw [Bool.eq_iff_iff, bytes_beq, beq_iff_eq, ByteArray.toList_eq, ByteArray.toList_eq]
 constructor
 ·intro h
  cases a; cases b
  exact congrArg _ (Array.toList_inj.1 h)
 ·intro h; rw [h]
theorem isStr_str {x : Value} (h : isStr x = true) : ∃ s, x = .string s := by
 cases x <;> simp [isStr] at h
 exact ⟨_, rfl⟩
theorem findNow_str (a : ByteArray) : ∀ (ms : List MapEntry) (i : Nat), (∀ m ∈ ms, isStr m.key = true) → Instr.findNow .string (.string a) ms i = some (findM (.string a) ms i)
  | [], i, _ => rfl
  | m :: ms, i, h => by
    obtain ⟨s, hs⟩ := isStr_str (h m List.mem_cons_self)
    have ih := findNow_str a ms (i + 1) fun x hx => h x (List.mem_cons_of_mem _ hx)
    simp only [Instr.findNow, findM, hs, Instr.sameNow, sameK, cellEq, bytes_eq_iff]
    cases (a == s)
    · exact ih
    · rfl
theorem KeyT.str {P : Program} {kt : TypeId} (hu : P.underlying kt = some .string) : KeyT P kt isStr := by
 refine ⟨fun em x w hx => ?_, fun x ms w hx hm => ?_, fun x y w hx hy hs => ?_⟩
 ·obtain ⟨s, rfl⟩ := isStr_str hx
  exact run_checkKey hu (by simp [IsKey]) em 9999
 ·obtain ⟨s, rfl⟩ := isStr_str hx
  exact run_findKey hu (findNow_str s ms 0 hm)
 ·obtain ⟨s, rfl⟩ := isStr_str hx
  obtain ⟨t, rfl⟩ := isStr_str hy
  simp only [sameK, cellEq, bytes_eq_iff, bytes_beq] at hs
  subst hs
  simp [Instr.keyThatStays, Instr.sameBits, (bytes_beq s s).2 rfl]
def entS (names : List ByteArray) : List V := names.map fun s => .tup [.c (.string s), .c (.bool true)]
theorem entS_ok : ∀ names : List ByteArray, entOk isStr (entS names) = true
  | [] => rfl
  | s :: l => by
    have := entS_ok l
    simp only [entS, List.map_cons, entOk, isStr, okV, Bool.true_and] at this ⊢
    exact this
def addN (names : List ByteArray) (s : ByteArray) : List ByteArray := if names.any (fun t => s.toList == t.toList) then names else names ++ [s]
theorem entV_cons (k v : Value) (u : V) (es : List V) (i : Nat) : entV (.tup [.c k, u] :: es) v i = if sameK v k then some (i, u) else entV es v (i + 1) := rfl
theorem entS_at (s : ByteArray) : ∀ (l : List ByteArray) (i : Nat), ((l.any (fun t => s.toList == t.toList)) = false ∧ entV (entS l) (.string s) i = none) ∨ ((l.any (fun t => s.toList == t.toList)) = true ∧ ∃ j, entV (entS l) (.string s) i = some (i + j, .c (.bool true)) ∧ l[j]? = some s)
  | [], i => .inl ⟨rfl, rfl⟩
  | t :: l, i => by
    have hc : entV (entS (t :: l)) (.string s) i = if (s.toList == t.toList) then some (i, .c (.bool true)) else entV (entS l) (.string s) (i + 1) := entV_cons (.string t) (.string s) (.c (.bool true)) (entS l) i
    rw [hc, List.any_cons]
    cases h : (s.toList == t.toList)
    · rw [Bool.false_or, if_neg Bool.false_ne_true]
      rcases entS_at s l (i + 1) with h1 | ⟨h1, j, h2, h3⟩
      · exact .inl h1
      · exact .inr ⟨h1, j + 1, by rw [h2]; congr 2; omega, by simpa using h3⟩
    · have e : s = t := (bytes_beq s t).1 (by rw [← bytes_eq_iff]; exact h)
      exact .inr ⟨by rw [Bool.true_or], 0, by rw [if_pos rfl]; rfl, by rw [e]; rfl⟩
theorem entS_upd (s : ByteArray) (names : List ByteArray) : (match entV (entS names) (.string s) 0 with | some (j, _) => (entS names).set j (.tup [.c (.string s), .c (.bool true)]) | none => entS names ++ [.tup [.c (.string s), .c (.bool true)]]) = entS (addN names s) := by
 rcases entS_at s names 0 with ⟨h1, h2⟩ | ⟨h1, j, h2, h3⟩
 ·rw [h2, addN, h1, if_neg Bool.false_ne_true]
  simp [entS]
 ·rw [h2, addN, h1, if_pos rfl, Nat.zero_add]
  have hj : (entS names)[j]? = some (.tup [.c (.string s), .c (.bool true)]) := by simp [entS, h3]
  show (entS names).set j _ = entS names
  apply List.ext_getElem?
  intro i
  rw [List.getElem?_set]
  split
  ·rename_i e
   subst e
   rw [hj, if_pos (List.getElem?_eq_some_iff.1 hj).1]
  ·rfl
theorem addN_nodup {names : List ByteArray} {s : ByteArray} (h : names.Nodup) : (addN names s).Nodup := by
 unfold addN
 split
 ·exact h
 ·rename_i hn
  refine List.nodup_append.2 ⟨h, by simp, fun a ha b hb e => hn ?_⟩
  rw [List.mem_singleton] at hb
  subst hb; subst e
  exact List.any_eq_true.2 ⟨a, ha, by simp⟩
theorem addN_mem {names : List ByteArray} {s t : ByteArray} : t ∈ addN names s ↔ t = s ∨ t ∈ names := by
 unfold addN
 split
 ·rename_i hn
  refine ⟨.inr, fun h => h.elim (fun e => ?_) id⟩
  subst e
  obtain ⟨u, hu, he⟩ := List.any_eq_true.1 hn
  have e : t = u := (bytes_beq t u).1 (by rw [← bytes_eq_iff]; exact he)
  rw [e]; exact hu
 ·rw [List.mem_append, List.mem_singleton]; exact ⟨fun h => h.symm, fun h => h.symm⟩
theorem ownsMap_of {P : Program} {kt et : TypeId} (hk : P.underlying kt = some .string) (he : P.underlying et = some .bool) {w : World} {cx : Cx} {g : Nat} {names : List ByteArray} (hn : names.Nodup) (hs : ∀ s ∈ names, s.size ≤ maxLen) (hl : names.length ≤ maxLen)
    (h : ∃ o, w.heap[g]? = some o ∧ OR w cx [.tup (entS names)] o) :
    ∃ D : DataW Unit, w.ownsMap P kt (plainElem P et) g names.length D ∧ Maps.size D = names.length ∧ (strKeys D).Perm (names.map fun s => s.data.toList) := by
  obtain ⟨o, ho, hor⟩ := h
  generalize hv : [V.tup (entS names)] = vs at hor
  cases hor with
  | cells hvr => subst hv; letI : Mode := ⟨True⟩; exact (noTupRow hvr).elim
  | told us T p q => cases names <;> simp [entS] at hv
  | @map es ms clock hlen hh hb hc =>
    have hes : es = entS names := by injection hv with hv; injection hv with hv; exact hv.symm
    subst hes
    have hlen : names.length = ms.length := by simpa [entS] using hlen
    have hent : ∀ (i : Nat) (s : ByteArray) (m : MapEntry), names[i]? = some s → ms[i]? = some m → m.key = .string s ∧ m.val = .bool true := fun i s m h1 h2 => by
      obtain ⟨v, e, hvr⟩ := hh i _ m (show (entS names)[i]? = some (.tup [.c (.string s), .c (.bool true)]) by simp [entS, h1]) h2
      injection e with e
      injection e with e1 e2
      injection e1 with e1
      injection e2 with e2
      subst e2
      exact ⟨e1.symm, (TR.v hvr).c_eq⟩
    have hall : ∀ m ∈ ms, ∃ s ∈ names, m.key = .string s ∧ m.val = .bool true := fun m hm => by
      obtain ⟨i, hi⟩ := List.getElem?_of_mem hm
      have hil : i < names.length := by rw [hlen]; exact (List.getElem?_eq_some_iff.1 hi).1
      exact ⟨names[i], List.getElem_mem hil, hent i _ m (List.getElem?_eq_getElem hil) hi⟩
    have hkey : ms.map (·.key) = names.map Value.string := by
      apply List.ext_getElem?
      intro i
      rw [List.getElem?_map, List.getElem?_map]
      by_cases hi : i < names.length
      · have hi' : i < ms.length := by omega
        rw [List.getElem?_eq_getElem hi, List.getElem?_eq_getElem hi']
        have := (hent i _ _ (List.getElem?_eq_getElem hi) (List.getElem?_eq_getElem hi')).1
        simp only [Option.map_some]; rw [this]
      · rw [List.getElem?_eq_none (by omega), List.getElem?_eq_none (by omega)]; rfl
    have hrd : ∀ m ∈ ms, ∀ s, m.key = .string s → m.val = .bool true → s.size ≤ maxLen → rd P kt (plainElem (H := Unit) P et) m = some (.string s.data.toList, .lit (.bool true)) := fun m _ s h1 h2 h3 => by
      simp [rd, h1, h2, keyOf, hk, mapKey, h3, plainElem_bool he]
    have hrgs : ms.map (rg P kt (plainElem (H := Unit) P et)) = names.map fun s => ((.string s.data.toList, .lit (.bool true)) : Lit × DataW Unit) := by
      apply List.ext_getElem?
      intro i
      rw [List.getElem?_map, List.getElem?_map]
      by_cases hi : i < names.length
      · have hi' : i < ms.length := by omega
        rw [List.getElem?_eq_getElem hi, List.getElem?_eq_getElem hi']
        obtain ⟨a1, a2⟩ := hent i _ _ (List.getElem?_eq_getElem hi) (List.getElem?_eq_getElem hi')
        simp only [Option.map_some, rg, hrd _ (List.getElem_mem hi') _ a1 a2 (hs _ (List.getElem_mem hi)), Option.getD_some]
      · rw [List.getElem?_eq_none (by omega), List.getElem?_eq_none (by omega)]; rfl
    refine ⟨.map ((ms.map (rg P kt (plainElem (H := Unit) P et))).foldr DataW.insert []), ⟨⟨ms⟩, clock, ho, ⟨by simp; omega, ⟨by simpa using hc, ?_, ?_⟩, fun x hx => ?_⟩, by simp; omega, rfl⟩, ?_, ?_⟩
    · simp only
      rw [List.nodup_iff_pairwise_ne, List.pairwise_map]; exact hb
    · simp only
      rw [hkey, List.nodup_iff_pairwise_ne, List.pairwise_map]
      exact (List.nodup_iff_pairwise_ne.1 hn).imp fun h e => h (by injection e)
    · obtain ⟨s, h1, h2, h3⟩ := hall x hx
      exact ⟨_, hrd x hx s h2 h3 (hs s h1)⟩
    · show (List.foldr DataW.insert [] _).length = _
      rw [length_sorted, List.length_map, hlen]
    · show (List.map (fun p => strOf p.1) (List.foldr DataW.insert [] _)).Perm _
      refine ((Go.WideShapes.sorted_perm _).map _).trans ?_
      rw [hrgs, List.map_map]
      exact .refl _
end Go.Abs
namespace Go.Proofs
open Go.RowKit Go.Maps Go.Sort Go.Shelf
def Tryz.keys125_ren : Go.Shelf.Ren := ⟨fun | 7 => 119 | 10 => 161 | n => n, fun | 23 => 124 | 26 => 9 | 3 => 4 | 28 => 166 | 0 => 0 | 27 => 165 | 33 => 116 | 4 => 4 | n => n, fun | n => n⟩
theorem Tryz.keys125 : Go.Proofs.SlLaysZ.n7 Tryz.prog Tryz.keys125_ren := {
 mixed := by kernel_rfl
 f7 := ⟨Tryz.f119.name, by decide, Tryz.func119.trans (congrArg some (by kernel_rfl))⟩
 f10 := ⟨Tryz.f161.name, by decide, Tryz.func161.trans (congrArg some (by kernel_rfl))⟩
 t0 := Tryz.underlying0
 a0 := Tryz.isAgg0
 z0 := Tryz.sizeOf0
 v0 := Tryz.zeroValue0
 t4 := Tryz.underlying4
 a4 := Tryz.isAgg4
 z4 := Tryz.sizeOf4
 v4 := Tryz.zeroValue4
 t23 := Tryz.underlying124
 a23 := Tryz.isAgg124
 z23 := Tryz.sizeOf124
 v23 := Tryz.zeroValue124
 t26 := Tryz.underlying9
 a26 := Tryz.isAgg9
 z26 := Tryz.sizeOf9
 v26 := Tryz.zeroValue9
 t27 := Tryz.underlying165
 a27 := Tryz.isAgg165
 z27 := Tryz.sizeOf165
 v27 := Tryz.zeroValue165
 t28 := Tryz.underlying166
 a28 := Tryz.isAgg166
 z28 := Tryz.sizeOf166
 v28 := Tryz.zeroValue166
 t33 := Tryz.underlying116
 a33 := Tryz.isAgg116
 z33 := Tryz.sizeOf116
 v33 := Tryz.zeroValue116 }
def Tryz.sorted124_ren : Go.Shelf.Ren := ⟨fun | 6 => 118 | 8 => 160 | 9 => 157 | 11 => 182 | 13 => 173 | 12 => 181 | 23 => 201 | 24 => 202 | 14 => 207 | 15 => 208 | 16 => 209 | 17 => 210 | 18 => 211 | 19 => 212 | 20 => 213 | 21 => 214 | 22 => 215 | 25 => 229 | 26 => 223 | 27 => 224 | 28 => 230 | 29 => 231 | 30 => 171 | 31 => 237 | n => n, fun | 26 => 9 | 28 => 166 | 24 => 81 | 0 => 0 | 3 => 3 | 37 => 210 | 48 => 238 | 50 => 219 | 4 => 4 | 40 => 232 | 39 => 231 | 45 => 130 | 5 => 5 | 9 => 9 | 51 => 252 | 55 => 256 | 57 => 260 | 58 => 261 | 33 => 116 | n => n, fun | n => n⟩
theorem Tryz.sorted124 : Go.Proofs.SlLaysZ.n6 Tryz.prog Tryz.sorted124_ren := {
 mixed := by kernel_rfl
 f6 := ⟨Tryz.f118.name, by decide, Tryz.func118.trans (congrArg some (by kernel_rfl))⟩
 f8 := ⟨Tryz.f160.name, by decide, Tryz.func160.trans (congrArg some (by kernel_rfl))⟩
 f11 := ⟨Tryz.f182.name, by decide, Tryz.func182.trans (congrArg some (by kernel_rfl))⟩
 t0 := Tryz.underlying0
 a0 := Tryz.isAgg0
 z0 := Tryz.sizeOf0
 v0 := Tryz.zeroValue0
 t24 := Tryz.underlying81
 a24 := Tryz.isAgg81
 z24 := Tryz.sizeOf81
 v24 := Tryz.zeroValue81
 t26 := Tryz.underlying9
 a26 := Tryz.isAgg9
 z26 := Tryz.sizeOf9
 v26 := Tryz.zeroValue9
 t28 := Tryz.underlying166
 a28 := Tryz.isAgg166
 z28 := Tryz.sizeOf166
 v28 := Tryz.zeroValue166
 i26 := by kernel_rfl }
def Tryz.sort151_ren : Go.Shelf.Ren := ⟨fun | 6 => 157 | 8 => 173 | 9 => 181 | 19 => 201 | 20 => 202 | 21 => 207 | 22 => 208 | 23 => 209 | 24 => 210 | 25 => 211 | 26 => 212 | 27 => 213 | 28 => 214 | 29 => 215 | 36 => 229 | 31 => 223 | 32 => 224 | 37 => 230 | 38 => 231 | 39 => 171 | 41 => 237 | n => n, fun | 27 => 81 | 29 => 9 | 3 => 3 | 32 => 210 | 26 => 81 | 0 => 0 | 44 => 238 | 46 => 219 | 4 => 4 | 36 => 232 | 35 => 231 | 41 => 130 | 5 => 5 | 9 => 9 | 53 => 252 | 57 => 256 | 63 => 260 | 64 => 261 | n => n, fun | n => n⟩
theorem Tryz.sort151 : Go.Proofs.SlLaysM.n6 Tryz.prog Tryz.sort151_ren := {
 mixed := by kernel_rfl
 f6 := ⟨Tryz.f157.name, by decide, Tryz.func157.trans (congrArg some (by kernel_rfl))⟩
 f8 := Tryz.func173.trans (congrArg some (by kernel_rfl))
 f9 := ⟨Tryz.f181.name, by decide, Tryz.func181.trans (congrArg some (by kernel_rfl))⟩
 f19 := Tryz.func201.trans (congrArg some (by kernel_rfl))
 f20 := Tryz.func202.trans (congrArg some (by kernel_rfl))
 f21 := ⟨Tryz.f207.name, by decide, Tryz.func207.trans (congrArg some (by kernel_rfl))⟩
 f22 := ⟨Tryz.f208.name, by decide, Tryz.func208.trans (congrArg some (by kernel_rfl))⟩
 f23 := ⟨Tryz.f209.name, by decide, Tryz.func209.trans (congrArg some (by kernel_rfl))⟩
 f24 := ⟨Tryz.f210.name, by decide, Tryz.func210.trans (congrArg some (by kernel_rfl))⟩
 f25 := ⟨Tryz.f211.name, by decide, Tryz.func211.trans (congrArg some (by kernel_rfl))⟩
 f26 := ⟨Tryz.f212.name, by decide, Tryz.func212.trans (congrArg some (by kernel_rfl))⟩
 f27 := ⟨Tryz.f213.name, by decide, Tryz.func213.trans (congrArg some (by kernel_rfl))⟩
 f28 := ⟨Tryz.f214.name, by decide, Tryz.func214.trans (congrArg some (by kernel_rfl))⟩
 f29 := ⟨Tryz.f215.name, by decide, Tryz.func215.trans (congrArg some (by kernel_rfl))⟩
 f31 := Tryz.func223.trans (congrArg some (by kernel_rfl))
 f32 := Tryz.func224.trans (congrArg some (by kernel_rfl))
 f36 := ⟨Tryz.f229.name, by decide, Tryz.func229.trans (congrArg some (by kernel_rfl))⟩
 f37 := ⟨Tryz.f230.name, by decide, Tryz.func230.trans (congrArg some (by kernel_rfl))⟩
 f38 := ⟨Tryz.f231.name, by decide, Tryz.func231.trans (congrArg some (by kernel_rfl))⟩
 f39 := ⟨Tryz.f171.name, by decide, Tryz.func171.trans (congrArg some (by kernel_rfl))⟩
 f41 := ⟨Tryz.f237.name, by decide, Tryz.func237.trans (congrArg some (by kernel_rfl))⟩
 t0 := Tryz.underlying0
 a0 := Tryz.isAgg0
 z0 := Tryz.sizeOf0
 v0 := Tryz.zeroValue0
 t3 := Tryz.underlying3
 a3 := Tryz.isAgg3
 z3 := Tryz.sizeOf3
 v3 := Tryz.zeroValue3
 t4 := Tryz.underlying4
 a4 := Tryz.isAgg4
 z4 := Tryz.sizeOf4
 v4 := Tryz.zeroValue4
 t5 := Tryz.underlying5
 a5 := Tryz.isAgg5
 z5 := Tryz.sizeOf5
 v5 := Tryz.zeroValue5
 t9 := Tryz.underlying9
 a9 := Tryz.isAgg9
 z9 := Tryz.sizeOf9
 v9 := Tryz.zeroValue9
 t26 := Tryz.underlying81
 a26 := Tryz.isAgg81
 z26 := Tryz.sizeOf81
 v26 := Tryz.zeroValue81
 t27 := Tryz.underlying81
 a27 := Tryz.isAgg81
 z27 := Tryz.sizeOf81
 v27 := Tryz.zeroValue81
 t29 := Tryz.underlying9
 a29 := Tryz.isAgg9
 z29 := Tryz.sizeOf9
 v29 := Tryz.zeroValue9
 t32 := Tryz.underlying210
 a32 := Tryz.isAgg210
 z32 := Tryz.sizeOf210
 v32 := Tryz.zeroValue210
 t35 := Tryz.underlying231
 a35 := Tryz.isAgg231
 z35 := Tryz.sizeOf231
 v35 := Tryz.zeroValue231
 t36 := Tryz.underlying232
 a36 := Tryz.isAgg232
 z36 := Tryz.sizeOf232
 v36 := Tryz.zeroValue232
 t41 := Tryz.underlying130
 a41 := Tryz.isAgg130
 z41 := Tryz.sizeOf130
 v41 := Tryz.zeroValue130
 t44 := Tryz.underlying238
 a44 := Tryz.isAgg238
 z44 := Tryz.sizeOf238
 v44 := Tryz.zeroValue238
 t46 := Tryz.underlying219
 a46 := Tryz.isAgg219
 z46 := Tryz.sizeOf219
 v46 := Tryz.zeroValue219
 t53 := Tryz.underlying252
 a53 := Tryz.isAgg252
 z53 := Tryz.sizeOf252
 v53 := Tryz.zeroValue252
 t57 := Tryz.underlying256
 a57 := Tryz.isAgg256
 z57 := Tryz.sizeOf256
 v57 := Tryz.zeroValue256
 t63 := Tryz.underlying260
 a63 := Tryz.isAgg260
 z63 := Tryz.sizeOf260
 v63 := Tryz.zeroValue260
 t64 := Tryz.underlying261
 a64 := Tryz.isAgg261
 z64 := Tryz.sizeOf261
 v64 := Tryz.zeroValue261 }
theorem Tryz.sorts124 (m : Nat) : AnyZ.SortsIn Tryz.prog Tryz.sorted124_ren Fence.wide m :=
  ⟨fun blk off cap ss W hH hblk hsz => callsIn_wide.2 (AnyM.slices_Sort_string Tryz.sort151 blk off cap ss W hH hblk hsz),
   fun p cap W => callsIn_wide.2 (AnyM.slices_Sort_string_none Tryz.sort151 p cap W)⟩
theorem Tryz.maps_Keys_125 (mb : Option Nat) (W : World) : CallsIn Fence.wide 5 Tryz.prog 119 #[.map mb] W fun e w' => e = .returned (.func (.func 161) #[] #[.pointer (some ⟨W.heap.size, 0, none⟩)]) ∧ w' = W.alloc (.cells #[.map mb] 124) :=
 AnyZ.keys_in Tryz.keys125 Fence.wide 5 trivial rfl mb W
set_option maxHeartbeats 1000000 in
theorem Tryz.slices_Sorted_keys_124_125 {H : Type} (b nn : Nat) (D0 : DataW H) (R : Value → Option (DataW H × List MemPlace)) (w : World) (hown : w.ownsMap Tryz.prog 9 R b nn D0) (hmax : Maps.size D0 ≤ maxLen) (hbytes : Maps.size D0 * 16 ≤ 140737488355328) :
  CallsIn Fence.wide 5 Tryz.prog 118 #[.func (.func 161) #[] #[.pointer (some ⟨w.heap.size, 0, none⟩)]] (w.alloc (.cells #[.map (some b)] 124)) fun e w' => ∃ (v : Value) (ss : List (List UInt8)), e = .returned v ∧ ss.Perm (strKeys D0) ∧
   w'.ownsRow (w.alloc (.cells #[.map (some b)] 124)).heap.size 9 1 v ss.length ((ss.mergeSort (fun x y => decide (x ≤ y))).map encStr) ∧ (v = .slice none 0 0 ↔ ss = []) ∧ Below (w.alloc (.cells #[.map (some b)] 124)).heap.size (w.alloc (.cells #[.map (some b)] 124)) w' := by
 have hbl := hown.lt
 have hseq : SeqGives Fence.wide 2 Tryz.prog 161 #[.pointer (some ⟨w.heap.size, 0, none⟩)] encStr (fun ss => ss.Perm (strKeys D0)) (Maps.size D0) (w.alloc (.cells #[.map (some b)] 124)) :=
  AnyZ.keys_gives (ρ := Tryz.keys125_ren) { Tryz.keys125 with } Fence.wide _ trivial rfl (by omega) w.heap.size b nn D0 _ (by simp) (by simp) (by
   obtain ⟨es, clock, hb, Ft, hs, hD⟩ := hown
   exact ⟨es, clock, (Below.heap_alloc _ _ b hbl).trans hb, Ft, hs, hD⟩)
 exact AnyZ.sorted_in Tryz.sorted124 Fence.wide 5 trivial trivial trivial trivial rfl (by omega) (Tryz.sorts124 _) (enters_of Tryz.func157 (by kernel_rfl) rfl) 161 #[.pointer (some ⟨w.heap.size, 0, none⟩)] trivial (enters_of Tryz.func161 (by kernel_rfl) rfl) _ _ hmax hbytes _ hseq
set_option maxHeartbeats 1000000 in
theorem Tryz.set_list {H : Type} (b nn : Nat) (D0 : DataW H) (R : Value → Option (DataW H × List MemPlace)) (w : World) (hown : w.ownsMap Tryz.prog 9 R b nn D0) (hmax : Maps.size D0 ≤ maxLen) (hbytes : Maps.size D0 * 16 ≤ 140737488355328) :
  Calls Tryz.prog 76 #[.map (some b)] w fun e w' => ∃ (v : Value) (ss : List (List UInt8)), e = .returned v ∧ ss.Perm (strKeys D0) ∧
   w'.ownsRow w.heap.size 9 1 v ss.length ((ss.mergeSort (fun x y => decide (x ≤ y))).map encStr) ∧ (v = .slice none 0 0 ↔ ss = []) ∧ Below w.heap.size w w' := by
 refine (callsIn_wide (n := 6)).1 ?_
 have hfK : Fence.wide.fn 119 := trivial
 have hfS : Fence.wide.fn 118 := trivial
 refine callsIn_of_wp Tryz.func76 rfl trivial ?_ rfl
 simp only [Tryz.ntmps76, List.size_toArray, List.length_cons, List.length_nil, Nat.reduceAdd, Nat.reduceSub, Array.replicate_succ, Array.replicate_zero, List.push_toArray, List.append_toArray, List.nil_append, List.cons_append]
 gi_wp2_with (first
  | (gi_at_call 119; refine (Tryz.maps_Keys_125 _ _).mono ?_; rintro e w' ⟨rfl, rfl⟩)
  | (gi_at_call 118; refine (Tryz.slices_Sorted_keys_124_125 b nn D0 R w hown hmax hbytes).mono ?_; rintro e w' ⟨v, ss, rfl, hS, hrow, hnil, hb⟩))
 go_ret
 exact ⟨v, ss, rfl, hS, ownsRow_base_a hrow (by simp), hnil, ((Below.refl _ w).alloc (Nat.le_refl _) _).trans (hb.mono (by simp))⟩
end Go.Proofs
namespace Go.Abs.M
open Go Go.Abs Go.Proofs
variable [Mode]
set_option maxRecDepth 20000
def noVal : Val := ⟨0, 0, ⟨#[]⟩⟩
def getV (s : ByteArray) : List Attr → Val × Bool
  | [] => (noVal, false)
  | a :: l => if eqS a.name s then (a.v, true) else getV s l
def opVal (o : Opd) (e : Ev) : Val := if o.attr.size = 0 then o.v else (getV o.attr e.attrs).1
def testB (e : Ev) (c : Cnd) : Bool := holdsV c.rel (opVal c.l e) (opVal c.r e)
def termB (n : Nd) (e : Ev) : Bool := decide (n.kind = 1) && eqS e.type n.type && n.tests.all (testB e)
def cmpBd (a b : Bd) : Int := orI [cmpS a.var b.var, cmpId (idOf a) (idOf b)]
def cmpL : List Bd → List Bd → Int
  | [], [] => 0
  | [], _ :: _ => -1
  | _ :: _, [] => 1
  | a :: l, b :: r => if cmpBd a b ≠ 0 then cmpBd a b else cmpL l r
def noBd : Bd := ⟨⟨#[]⟩, ⟨0, 0, 0, ⟨#[]⟩, []⟩⟩
def sameId (a b : Bd) : Bool := a.ev.src == b.ev.src && a.ev.seq == b.ev.seq
def apartAt (l : List Bd) (i : Nat) : Bool := (List.range i).all fun j => !sameId (l.getD i noBd) (l.getD j noBd)
def apartB (l : List Bd) : Bool := (List.range l.length).all (apartAt l)
def ofB (l : List Bd) (vars : List ByteArray) : List Bd := l.filter fun b => hasS vars b.var
def inI64 (n : Int) : Prop := -9223372036854775808 ≤ n ∧ n ≤ 9223372036854775807
def leafFits (n : Nd) : List Bd → Bool
  | [b] => eqS b.var n.var && termB n b.ev
  | _ => false
def kidsFit (two : Bool) (p : List Bd) : Option (List Bd) → Nat → List ((List Bd → Bool) × List ByteArray) → Option Nat
  | _, s, [] => some s
  | prev, s, (f, vs) :: r => if f (ofB p vs) = false then none else if two && prev.any (fun x => decide (beginOf (ofB p vs) ≤ endOf x)) then none else kidsFit two p (some (ofB p vs)) (s + (ofB p vs).length) r
def allFit (p : List Bd) : Option Nat → Bool
  | some s => s == p.length && apartB p
  | none => false
def fitsF (n : Nd) (l : List (List Bd → Bool)) (p : List Bd) : Bool :=
  if n.kind = 1 then leafFits n p else if n.kind = 4 then l.any (fun f => f p) else allFit p (kidsFit (decide (n.kind = 2)) p none 0 (l.zip (n.kids.map Nd.vars)))
def Nd.fits (n : Nd) : List Bd → Bool := n.para fitsF
end Go.Abs.M
namespace Go.Abs.M
open Go Go.Abs Go.Proofs
variable [Mode]
structure Tri {α : Type} (c : α → α → Int) : Prop where
  flip : ∀ a b, c b a = - c a b
  trans : ∀ a b d, c a b ≤ 0 → c b d ≤ 0 → c a d ≤ 0
  small : ∀ a b, -1 ≤ c a b ∧ c a b ≤ 1
namespace Tri
variable {α β : Type} {c c' : α → α → Int}
theorem refl (h : Tri c) (a : α) : c a a = 0 := by have := h.flip a a; omega
theorem lt_le (h : Tri c) {a b d : α} (h1 : c a b < 0) (h2 : c b d ≤ 0) : c a d < 0 := by
 by_cases k : c a d < 0
 ·exact k
 ·have e := h.flip a d
  have := h.trans b d a h2 (by omega)
  have e2 := h.flip a b
  omega
theorem le_lt (h : Tri c) {a b d : α} (h1 : c a b ≤ 0) (h2 : c b d < 0) : c a d < 0 := by
 by_cases k : c a d < 0
 ·exact k
 ·have e := h.flip a d
  have := h.trans d a b (by omega) h1
  have e2 := h.flip b d
  omega
theorem lex (h : Tri c) (h' : Tri c') : Tri (fun a b => if c a b ≠ 0 then c a b else c' a b) := by
 refine ⟨fun a b => ?_, fun a b d h1 h2 => ?_, fun a b => ?_⟩
 ·have e := h.flip a b
  have e' := h'.flip a b
  split <;> split <;> omega
 ·
  have k1 : c a b ≤ 0 := by split at h1 <;> omega
  have k2 : c b d ≤ 0 := by split at h2 <;> omega
  have k3 := h.trans a b d k1 k2
  split
  ·exact k3
  ·rename_i e
   have e : c a d = 0 := by omega
   have z1 : c a b = 0 := by
    by_cases k : c a b = 0
    ·exact k
    ·have := h.lt_le (a := a) (b := b) (d := d) (by omega) k2; omega
   have z2 : c b d = 0 := by
    by_cases k : c b d = 0
    ·exact k
    ·have := h.le_lt (a := a) (b := b) (d := d) k1 (by omega); omega
   rw [if_neg (by simp [z1])] at h1
   rw [if_neg (by simp [z2])] at h2
   exact h'.trans a b d h1 h2
 ·have e := h.small a b
  have e' := h'.small a b
  split <;> omega
theorem on (h : Tri c) (f : β → α) : Tri (fun a b => c (f a) (f b)) := ⟨fun a b => h.flip _ _, fun a b d => h.trans _ _ _, fun a b => h.small _ _⟩
end Tri
theorem tri_I : Tri cmpI := by
 refine ⟨fun a b => ?_, fun a b d => ?_, fun a b => ?_⟩ <;> simp only [cmpI] <;> repeat' split <;> omega
theorem cmpS_cases (a b : ByteArray) : (cmpS a b = -1 ∧ a.toList < b.toList) ∨ (cmpS a b = 0 ∧ a.toList = b.toList) ∨ (cmpS a b = 1 ∧ b.toList < a.toList) := by
 unfold cmpS
 rw [bytesLess_eq']
 by_cases h : a.toList < b.toList
 ·simp [h]
 ·by_cases e : a.toList = b.toList
  ·simp [e, List.lt_irrefl]
  ·have : b.toList < a.toList := by
    rcases List.le_iff_lt_or_eq.1 (show b.toList ≤ a.toList from h) with h1 | h1
    ·exact h1
    ·exact absurd h1.symm e
   simp [h, e, this]
theorem tri_S : Tri cmpS := by
 refine ⟨fun a b => ?_, fun a b d h1 h2 => ?_, fun a b => ?_⟩
 ·rcases cmpS_cases a b with ⟨h1, h2⟩ | ⟨h1, h2⟩ | ⟨h1, h2⟩ <;> rcases cmpS_cases b a with ⟨k1, k2⟩ | ⟨k1, k2⟩ | ⟨k1, k2⟩ <;> rw [h1, k1] <;>
   first
    | omega
    | exact absurd k2 (List.lt_asymm h2)
    | exact absurd k2 (by rw [h2]; exact List.lt_irrefl _)
    | exact absurd h2 (by rw [k2]; exact List.lt_irrefl _)
 ·rcases cmpS_cases a d with ⟨k1, _⟩ | ⟨k1, _⟩ | ⟨_, k2⟩
  ·omega
  ·omega
  ·exfalso
   have e1 : ¬ b.toList < a.toList := fun hh => by
    rcases cmpS_cases a b with ⟨_, h⟩ | ⟨_, h⟩ | ⟨h, _⟩
    ·exact List.lt_asymm h hh
    ·rw [h] at hh; exact List.lt_irrefl _ hh
    ·omega
   have e2 : ¬ d.toList < b.toList := fun hh => by
    rcases cmpS_cases b d with ⟨_, h⟩ | ⟨_, h⟩ | ⟨h, _⟩
    ·exact List.lt_asymm h hh
    ·rw [h] at hh; exact List.lt_irrefl _ hh
    ·omega
   exact List.le_trans (show a.toList ≤ b.toList from e1) (show b.toList ≤ d.toList from e2) k2
 ·rcases cmpS_cases a b with ⟨h, _⟩ | ⟨h, _⟩ | ⟨h, _⟩ <;> omega
theorem orI2 (x y : Int) : orI [x, y] = if x ≠ 0 then x else y := by
 simp only [orI]
 split
 ·rfl
 ·split
  ·rfl
  ·omega
theorem tri_Id : Tri cmpId := by
 have : cmpId = fun a b : Int × Int => if cmpI a.1 b.1 ≠ 0 then cmpI a.1 b.1 else cmpI a.2 b.2 := by funext a b; exact orI2 _ _
 rw [this]
 exact (tri_I.on Prod.fst).lex (tri_I.on Prod.snd)
theorem tri_Bd : Tri cmpBd := by
 have : cmpBd = fun a b : Bd => if cmpS a.var b.var ≠ 0 then cmpS a.var b.var else cmpId (idOf a) (idOf b) := by funext a b; exact orI2 _ _
 rw [this]
 exact (tri_S.on Bd.var).lex (tri_Id.on idOf)
theorem tri_L : Tri cmpL := by
  have fl : ∀ a b, cmpL b a = - cmpL a b := by
    intro a
    induction a with
    | nil => intro b; cases b <;> rfl
    | cons x l ih =>
      intro b
      cases b with
      | nil => rfl
      | cons y r =>
        have e := tri_Bd.flip x y
        have := ih r
        simp only [cmpL]
        split <;> split <;> omega
  refine ⟨fl, ?_, ?_⟩
  · intro a
    induction a with
    | nil => intro b d _ _; cases d <;> simp [cmpL]
    | cons x l ih =>
      intro b d h1 h2
      cases b with
      | nil => simp [cmpL] at h1
      | cons y r =>
        cases d with
        | nil => simp [cmpL] at h2
        | cons z q =>
          simp only [cmpL] at h1 h2 ⊢
          have k1 : cmpBd x y ≤ 0 := by split at h1 <;> omega
          have k2 : cmpBd y z ≤ 0 := by split at h2 <;> omega
          have k3 := tri_Bd.trans x y z k1 k2
          split
          · exact k3
          · have z1 : cmpBd x y = 0 := by
              by_cases k : cmpBd x y = 0
              · exact k
              · have := tri_Bd.lt_le (a := x) (b := y) (d := z) (by omega) k2; omega
            have z2 : cmpBd y z = 0 := by
              by_cases k : cmpBd y z = 0
              · exact k
              · have := tri_Bd.le_lt (a := x) (b := y) (d := z) k1 (by omega); omega
            rw [if_neg (by simp [z1])] at h1
            rw [if_neg (by simp [z2])] at h2
            exact ih r q h1 h2
  · intro a
    induction a with
    | nil => intro b; cases b <;> simp [cmpL]
    | cons x l ih =>
      intro b
      cases b with
      | nil => simp [cmpL]
      | cons y r =>
        have e := tri_Bd.small x y
        have := ih r
        simp only [cmpL]
        split <;> omega
def SrtL (rows : List (List Bd)) : Prop := rows.Pairwise (fun a b => cmpL a b < 0)
structure AtL (rows : List (List Bd)) (x : List Bd) (i : Nat) : Prop where
  lt : ∀ j y, rows[j]? = some y → j < i → cmpL y x < 0
  ge : ∀ j y, rows[j]? = some y → i ≤ j → 0 ≤ cmpL y x
def hasL (rows : List (List Bd)) (x : List Bd) : Bool := rows.any (fun y => cmpL y x == 0)
def insL' (rows : List (List Bd)) (x : List Bd) : List (List Bd) := rows.takeWhile (fun y => decide (cmpL y x < 0)) ++ x :: rows.dropWhile (fun y => decide (cmpL y x < 0))
theorem takeWhile_at {α : Type} {p : α → Bool} : ∀ {l : List α} {i : Nat}, i ≤ l.length → (∀ j y, l[j]? = some y → j < i → p y = true) → (∀ j y, l[j]? = some y → i ≤ j → p y = false) → l.takeWhile p = l.take i ∧ l.dropWhile p = l.drop i
  | [], i, _, _, _ => by simp
  | a :: l, 0, _, _, h2 => by
    have := h2 0 a rfl (Nat.le_refl _)
    simp [this]
  | a :: l, i + 1, hi, h1, h2 => by
    have ha := h1 0 a rfl (by omega)
    obtain ⟨e1, e2⟩ := takeWhile_at (p := p) (l := l) (i := i) (by simpa using hi) (fun j y hy hj => h1 (j + 1) y (by simpa using hy) (by omega)) (fun j y hy hj => h2 (j + 1) y (by simpa using hy) (by omega))
    simp [ha, e1, e2]
theorem AtL.ins {rows : List (List Bd)} {x : List Bd} {i : Nat} (h : AtL rows x i) (hi : i ≤ rows.length) : insL' rows x = rows.take i ++ x :: rows.drop i := by
 obtain ⟨e1, e2⟩ := takeWhile_at (p := fun y => decide (cmpL y x < 0)) hi (fun j y hy hj => by simpa using h.lt j y hy hj) (fun j y hy hj => by have := h.ge j y hy hj; simp; omega)
 rw [insL', e1, e2]
theorem SrtL.ins {rows : List (List Bd)} {x : List Bd} {i : Nat} (hs : SrtL rows) (h : AtL rows x i) (hn : hasL rows x = false) : SrtL (rows.take i ++ x :: rows.drop i) := by
 have low : ∀ y ∈ rows.take i, cmpL y x < 0 := fun y hy => by
  obtain ⟨j, hj⟩ := List.getElem?_of_mem hy
  rw [List.getElem?_take] at hj
  split at hj
  ·rename_i hji; exact h.lt j y hj hji
  ·cases hj
 have high : ∀ y ∈ rows.drop i, cmpL x y < 0 := fun y hy => by
  obtain ⟨j, hj⟩ := List.getElem?_of_mem hy
  rw [List.getElem?_drop] at hj
  have k := h.ge _ y hj (by omega)
  have k2 : cmpL y x ≠ 0 := fun e => by
   have : hasL rows x = true := List.any_eq_true.2 ⟨y, List.mem_of_getElem? hj, by simp [e]⟩
   rw [hn] at this; cases this
  have := tri_L.flip y x
  omega
 have hs2 : SrtL (rows.take i ++ rows.drop i) := by rw [List.take_append_drop]; exact hs
 obtain ⟨s1, s2, s3⟩ := List.pairwise_append.1 hs2
 refine List.pairwise_append.2 ⟨s1, List.pairwise_cons.2 ⟨high, s2⟩, fun a ha b hb => ?_⟩
 rcases List.mem_cons.1 hb with rfl | hb
 ·exact low a ha
 ·exact s3 a ha b hb
theorem SrtL.at {rows : List (List Bd)} (hs : SrtL rows) (x : List Bd) : AtL rows x (rows.takeWhile (fun y => decide (cmpL y x < 0))).length := by
  induction rows with
  | nil => exact ⟨fun j y h => by simp at h, fun j y h => by simp at h⟩
  | cons a l ih =>
    obtain ⟨h1, h2⟩ := List.pairwise_cons.1 hs
    by_cases ha : cmpL a x < 0
    · have ih := ih h2
      rw [List.takeWhile_cons_of_pos (by simpa using ha), List.length_cons]
      refine ⟨fun j y hy hj => ?_, fun j y hy hj => ?_⟩
      · cases j with
        | zero => simp at hy; subst hy; exact ha
        | succ j => exact ih.lt j y (by simpa using hy) (by omega)
      · cases j with
        | zero => omega
        | succ j => exact ih.ge j y (by simpa using hy) (by omega)
    · rw [List.takeWhile_cons_of_neg (by simpa using ha)]
      refine ⟨fun j y hy hj => by simp at hj, fun j y hy hj => ?_⟩
      cases j with
      | zero => simp at hy; subst hy; omega
      | succ j =>
        have hm := h1 y (List.mem_of_getElem? (by simpa using hy))
        by_cases k : 0 ≤ cmpL y x
        · exact k
        · have := tri_L.lt_le hm (by omega : cmpL y x ≤ 0); omega
end Go.Abs.M
