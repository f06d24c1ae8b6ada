import Derived.Test.YtmhamgllanihoaaGreatOwa
import Derived.RangeFuncRecord
import Derived.ChangeArms
import Derived.SizedLaws
import Derived.Carry
import Derived.ChangeOld
import Derived.Test.YtmhamgllanihoaaGreatRows
import Derived.MapKept
namespace Go.Abs
open Go
section
variable {P : Program} {T : Tab} {n : Nat} {s : St} {σ : Hp} {K : St → Hp → Prop} {Q Q' : Exit → St → Hp → Prop}
/-- A post, on concrete states. -/
def QC (B : Base) (n : Nat) (Q : Exit → St → Hp → Prop) (e : Exit) (a : Act) (w : World) : Prop := ∃ cx s σ, SR B n cx s σ a w ∧ Q e s σ
/-- Code, from a state. -/
def AW (P : Program) (n : Nat) (c : Code) (Q : Exit → St → Hp → Prop) (s : St) (σ : Hp) : Prop :=
  ∀ (B : Base) (cx : Cx) (a : Act) (w : World), B.plain → B.sd = (fun _ => false) → SR B n cx s σ a w → c.wp P (QC B n Q) a w
def thenS (K : St → Hp → Prop) (Q : Exit → St → Hp → Prop) : Exit → St → Hp → Prop
  | .normal, s, σ => K s σ
  | e, s, σ => Q e s σ
def inBlockS (id : Nat) (Q : Exit → St → Hp → Prop) : Exit → St → Hp → Prop
  | .exit id', s, σ => if id' = id then Q .normal s σ else Q (.exit id') s σ
  | e, s, σ => Q e s σ
theorem AW.mono {c : Code} (h : AW P n c Q s σ) (hq : ∀ e s σ, Q e s σ → Q' e s σ) : AW P n c Q' s σ :=
  fun B cx a w h1 h2 h3 => wp_mono (h B cx a w h1 h2 h3) fun e _ _ ⟨cx', s', σ', h4, h5⟩ => ⟨cx', s', σ', h4, hq e s' σ' h5⟩
theorem AW.skip (h : Q .normal s σ) : AW P n .skip Q s σ := fun _ cx _ _ _ _ h3 => wp_skip ⟨cx, s, σ, h3, h⟩
theorem AW.exit {id : Nat} (h : Q (.exit id) s σ) : AW P n (.exit id) Q s σ := fun _ cx _ _ _ _ h3 => wp_exit ⟨cx, s, σ, h3, h⟩
theorem AW.ret (h : Q .ret s σ) : AW P n .ret Q s σ := fun _ cx _ _ _ _ h3 => wp_ret ⟨cx, s, σ, h3, h⟩
theorem AW.seq {x y : Code} (h : AW P n x (thenS (AW P n y Q) Q) s σ) : AW P n (.seq x y) Q s σ :=
  fun B cx a w h1 h2 h3 => wp_seq (wp_mono (h B cx a w h1 h2 h3) fun e a' w' ⟨cx', s', σ', h4, h5⟩ => by
    cases e with
    | normal => exact h5 B cx' a' w' h1 h2 h4
    | _ => exact ⟨cx', s', σ', h4, h5⟩)
theorem AW.seq_k {x y : Code} (h : ∀ K : St → Hp → Prop, (∀ s σ, AW P n y Q s σ → K s σ) → AW P n x (thenS K Q) s σ) : AW P n (.seq x y) Q s σ :=
  .seq (h _ fun _ _ h => h)
theorem AW.cond {c : Operand} {x y : Code} {b : Bool} (hc : ev s c = .c (.bool b)) (ht : b = true → AW P n x Q s σ) (hf : b = false → AW P n y Q s σ) : AW P n (.cond c x y) Q s σ :=
  fun B cx a w h1 h2 h3 => by
    have hv := h3.tr c
    rw [hc] at hv
    exact wp_cond_split hv.c_eq (fun e => ht e B cx a w h1 h2 h3) (fun e => hf e B cx a w h1 h2 h3)
theorem AW.block {id : Nat} {c : Code} (h : AW P n c (inBlockS id Q) s σ) : AW P n (.block id c) Q s σ :=
  fun B cx a w h1 h2 h3 => wp_block (wp_mono (h B cx a w h1 h2 h3) fun e a' w' ⟨cx', s', σ', h4, h5⟩ => by
    cases e with
    | exit id' =>
      simp only [Exit.inBlock, inBlockS] at h5 ⊢
      split
      · rename_i e; rw [if_pos e] at h5; exact ⟨cx', s', σ', h4, h5⟩
      · rename_i e; rw [if_neg e] at h5; exact ⟨cx', s', σ', h4, h5⟩
    | _ => exact ⟨cx', s', σ', h4, h5⟩)
theorem wp_loop_rel {c : Code} {a : Act} {w : World} {Q : Exit → Act → World → Prop} (I : Nat → Act → World → Prop) (h₀ : ∃ m, I m a w)
    (round : ∀ m a w, I m a w → c.wp P (Exit.then (fun a' w' => ∃ m', m' < m ∧ I m' a' w') Q) a w) : (Code.loop c).wp P Q a w := by
  intro b k cs
  have key : ∀ m a w, I m a w → ∃ e a' w', Q e a' w' ∧ Arrives P (lone (b.at a (.code c :: .inLoop c :: k)) cs w) b k cs e a' w' := by
    intro m
    induction m using Nat.strongRecOn with
    | _ m ih =>
      intro a w hI
      obtain ⟨e, a₁, w₁, hq, harr⟩ := round m a w hI b (.inLoop c :: k) cs
      cases e with
      | normal =>
        obtain ⟨m', hlt, hI₁⟩ := hq
        obtain ⟨e₂, a₂, w₂, hq₂, harr₂⟩ := ih m' hlt a₁ w₁ hI₁
        exact ⟨e₂, a₂, w₂, hq₂, .of_steps (Steps.trans harr (.one step_inLoop)) harr₂⟩
      | exit id => exact ⟨_, a₁, w₁, hq, .pass (x := .inLoop c) rfl (fun _ _ => .inl (by simp)) harr⟩
      | goto l => exact ⟨_, a₁, w₁, hq, .pass (x := .inLoop c) rfl (fun _ _ => .inl (by simp)) harr⟩
      | ret => exact ⟨_, a₁, w₁, hq, .pass (x := .inLoop c) rfl (fun _ _ => .inl (by simp)) harr⟩
      | panic ch => exact ⟨_, a₁, w₁, hq, .pass (x := .inLoop c) rfl (fun _ _ => .inl (by simp)) harr⟩
      | outgrown => exact ⟨_, a₁, w₁, hq, .pass (x := .inLoop c) rfl (fun _ _ => .inl (by simp)) harr⟩
  obtain ⟨m, hm⟩ := h₀
  obtain ⟨e, a', w', hq, harr⟩ := key m a w hm
  exact ⟨e, a', w', hq, .of_steps (.one step_loop) harr⟩
/-- A loop: what holds at every round's head, with a number that goes down. -/
theorem AW.loop {c : Code} (I : Nat → St → Hp → Prop) (m : Nat) (h0 : I m s σ) (hr : ∀ m s σ, I m s σ → AW P n c (thenS (fun s' σ' => ∃ m', m' < m ∧ I m' s' σ') Q) s σ) : AW P n (.loop c) Q s σ :=
  fun B cx a w h1 h2 h3 => wp_loop_rel (fun m a w => ∃ cx s σ, SR B n cx s σ a w ∧ I m s σ) ⟨m, cx, s, σ, h3, h0⟩ fun m a w ⟨cx, s, σ, h4, h5⟩ =>
    wp_mono (hr m s σ h5 B cx a w h1 h2 h4) fun e a' w' ⟨cx', s', σ', h6, h7⟩ => by
      cases e with
      | normal => obtain ⟨m', hm, hI⟩ := h7; exact ⟨m', hm, cx', s', σ', h6, hI⟩
      | _ => exact ⟨cx', s', σ', h6, h7⟩
theorem AW.region (hT : T.ok P) (hsd : T.sd = fun _ => false) {id : Nat} {l : List Oper} (h : semL P T n (l.map (·.dst)) l (fun s σ => Q .normal s σ) s σ) : AW P n (.region id l.toArray false) Q s σ :=
  fun B cx a w _ h2 h3 => wp_region_lit (semL_sound hT (h2.trans hsd.symm) (ops := l.toArray) l h3 (fun a w ⟨cx, s, σ, h4, h5⟩ => ⟨cx, s, σ, h4, h5⟩) (by simpa using h))
/-- A region that draws its order, by a schedule. -/
theorem AW.draw (hT : T.ok P) (hm : P.follows .mixedOrders = true) {id : Nat} {l : List Oper} (sched : List (Nat × Nat)) (hlen : sched.length = l.length) (hs : Region.noSelect l.toArray = true)
    (hB : schedB P l.toArray sched true (Array.replicate l.length false) = true)
    (h : semD P T n l (l.map (·.dst)) sched (fun s σ => Q .normal s σ) s σ) : AW P n (.region id l.toArray true) Q s σ :=
  fun B cx a w h1 _ h3 => by
    have h4 := h3.drew
    have h5 := h4.toAt T.sd
    refine wp_mono (Q := onlyN (fun a w => QC B n Q .normal a w)) (wp_region_held (S := stillW (B.at cx s.l T.sd w.drew)) hm ?_) (fun e a w hq => by cases e <;> first | exact hq | exact hq.elim)
    have := semD_sound hT hs (Q := fun a w => QC B n Q .normal a w) (K := fun s σ => Q .normal s σ)
      sched true (Array.replicate l.length false) (B := B.at cx s.l T.sd w.drew) rfl (fun a w ⟨cx', s', σ', h6, h7⟩ => ⟨cx', s', σ', h6.ofAt h1, h7⟩) hB h5 (fun _ => ⟨fun g hg => .inl hg, fun d cells hd hl => .inr ⟨d, cells, hd, hl, rfl⟩⟩) (by simpa using h)
    rw [hlen] at this
    simpa using this
/-- The state at a function's door. -/
def enterS (args : List V) : St := ⟨fun t => args.getD t .junk, fun _ => none⟩
/-- What a result slot holds. -/
def resV (P : Program) (s : St) (σ : Hp) (k : V → Prop) : ResultVar → Prop
  | .tmp t => okV (s.t t) = true ∧ k (s.t t)
  | .cell p t => okT P t = true ∧ szT P t ≠ 0 ∧ (aggT P t = false → szT P t = 1) ∧ qLoad (aggT P t) (szT P t) s σ (fun v => okV v = true ∧ k v) (s.t p)
def resVs (P : Program) (s : St) (σ : Hp) : List ResultVar → (List V → Prop) → Prop
  | [], k => k []
  | r :: rs, k => resV P s σ (fun v => resVs P s σ rs (fun vs => k (v :: vs))) r
/-- A block that is nobody's turns. -/
theorem SR.turn {B : Base} {cx : Cx} {a : Act} {w : World} {r : Nat} {o : Obj} (hB : B.plain) (h : SR B n cx s σ a w) (hr : B.w.heap.size ≤ r) (hf : ¬ foot cx σ s.l r) (hi : ¬ cx.I r) (hm : Marks cx (foot cx σ s.l) B.w (w.putObj r o) a.defers) :
    SR B n cx s σ a (w.putObj r o) := by
  have hb : ∀ g, g < w.heap.size → ¬ (g = r) → (w.putObj r o).heap[g]? = w.heap[g]? := fun g _ hg => World.putObj_heap_other hg
  have hH : HR cx σ (w.putObj r o) := h.heap.keep (.refl _) (fun g => g = r) (fun g hg ho => hf (by rw [← hg]; exact .inl ho)) (fun g hg hI => hi (by rw [← hg]; exact hI)) (fun g hg ho => h.heap.apart g ho hg) (fun g hg => by rw [World.putObj_size]; exact h.heap.ilt g hg) hb
  have himm : ∀ g, cx.I g → (w.putObj r o).heap[g]? = w.heap[g]? := fun g hg => World.putObj_heap_other (fun e => hi (by rw [← e]; exact hg))
  refine ⟨h.size, hm, h.nd, fun t => (h.tmp t).keep himm (.refl _) rfl, hH, ⟨fun d cells hd => ?_, h.box.apart, h.box.inj⟩, ⟨h.ext.os, h.ext.tape, h.ext.output, by rw [World.putObj_size]; exact h.ext.size, fun g hg hF => ?_, h.ext.le, h.ext.inew, h.ext.fnew⟩, h.gnew, h.onew, fun g hs => (hB.1 g hs).elim, fun g hs => (hB.1 g hs).elim, fun _ _ _ hs => (hB.1 _ hs).elim⟩
  · obtain ⟨T, cs, h1, h2⟩ := h.box.box d cells hd
    exact ⟨T, cs, (World.putObj_heap_other (fun e => hf (.inr ⟨d, cells, hd, e⟩))).trans h1, h2.keep himm (.refl _)⟩
  · exact (World.putObj_heap_other (fun e => by rw [e] at hg; omega)).trans (h.ext.block g hg hF)
theorem pair_head {α : Type} {d : α} {ds : List α} (h : (d :: ds).Pairwise (· ≠ ·)) : ∀ x ∈ ds, d ≠ x := (List.pairwise_cons.1 h).1
/-- At a frame's end: one mark is come to. -/
theorem SR.shut {B : Base} {cx : Cx} {tmps : Array Value} {d : Deferred} {ds : List Deferred} {w : World} (hB : B.plain) (h : SR B n cx s σ { tmps := tmps, defers := d :: ds } w) :
    ∃ D, d.target = .collected D ∧ w.heap[D]? = some (.deferred (some [])) ∧ SR B n cx s σ { tmps := tmps, defers := ds } (w.putObj D (.deferred none)) := by
  obtain ⟨hp, hm⟩ := h.defers
  obtain ⟨D, h1, h2, h3, h4, h5⟩ := hm d List.mem_cons_self
  have h0 : SR B n cx s σ { tmps := tmps, defers := ds } w := ⟨h.size, ⟨(List.pairwise_cons.1 hp).2, fun x hx => hm x (List.mem_cons_of_mem _ hx)⟩, (fun e => by rw [hB.2] at e; cases e), h.tmp, h.heap, h.box, h.ext, h.gnew, h.onew, h.stab, h.stN, h.stS⟩
  refine ⟨D, by rw [h1], h3, SR.turn hB h0 h2 h4 h5 ⟨(List.pairwise_cons.1 hp).2, fun x hx => ?_⟩⟩
  obtain ⟨E, k1, k2, k3, k4, k5⟩ := hm x (List.mem_cons_of_mem _ hx)
  exact ⟨E, k1, k2, (World.putObj_heap_other (fun e => pair_head hp x hx (by rw [h1, k1, e]))).trans k3, k4, k5⟩
theorem leavesM {B : Base} {cx : Cx} {fn : Func} {tmps : Array Value} {R : Ending → World → Prop} (hB : B.plain) : ∀ (ds : List Deferred) (w : World), SR B n cx s σ { tmps := tmps, defers := ds } w →
    (∀ w', SR B n cx s σ { tmps := tmps, defers := [] } w' → ∃ v, (results fn tmps).run P w' = .ok v w' ∧ R (.returned v) w') → LeavesInM Fence.wide 0 P fn tmps R ds .returning w
  | [], w, h, k => k w h
  | d :: ds, w, h, k => by
    obtain ⟨D, h1, h2, h3⟩ := h.shut hB
    exact ⟨fun e => (by cases e), .inl ⟨D, _, h1, run_takeDeferred h2, leavesM hB ds _ h3 k⟩⟩
theorem calls_of_wpM {f : FuncId} {fn : Func} {c : Code} {args : Array Value} {w : World} {R : Ending → World → Prop} (hf : P.funcs[f]? = some fn) (hb : fn.body = some c)
    (h : c.wp P (bodyPostM Fence.wide 0 P fn R) { tmps := args ++ Array.replicate (fn.ntmps - args.size) undef, defers := [] } w) : Calls P f args w R :=
  (callsIn_wide (n := 0)).1 (callsIn_of_wp_marks hf hb trivial (wpIn_wide.2 h))
end
end Go.Abs
namespace Go.Abs
open Go
section
variable {P : Program} {n : Nat} {s : St} {σ : Hp}
def retV (k : V → Prop) : List V → Prop
  | [v] => k (wk v)
  | vs => k (.tup (vs.map wk))
/-- What a body may end with. -/
def retS (P : Program) (rs : List ResultVar) (R : V → Hp → Prop) : Exit → St → Hp → Prop
  | .normal, s, σ | .ret, s, σ => resVs P s σ rs (retV fun v => R v σ)
  | _, _, _ => False
def resF (tmps : Array Value) : ResultVar → Sem Value
  | .tmp t => pure (tmps.getD t undef)
  | .cell a t => do loadVar t (← asAddr (tmps.getD a undef))
theorem resV_run {B : Base} {cx : Cx} {a : Act} {w : World} (h : SR B n cx s σ a w) {k : V → Prop} {r : ResultVar} (hk : resV P s σ k r) :
    ∃ v x, k v ∧ VR w cx v x ∧ (resF a.tmps r).run P w = .ok x w := by
  cases r with
  | tmp t =>
    obtain ⟨h1, h2⟩ := hk
    exact ⟨_, _, h2, (h.tmp t).ok h1, rfl⟩
  | cell p t =>
    obtain ⟨h1, h2, h3, h4⟩ := hk
    obtain ⟨v, ⟨h5, h6⟩, hr⟩ := qLoad_sound h1 h2 h3 h4
    obtain ⟨y, b, o, hp, hy, hv, _⟩ := hr cx w _ h.heap h.box (h.tmp p)
    refine ⟨v, y, h6, hv.ok h5, ?_⟩
    have h7 := hy w rfl
    rw [hp] at h7
    simp only [Instr.loadAt, Instr.sureAddr, Sem.run_bind, Sem.run_pure, Result.andThen_ok] at h7
    simp only [resF, hp, asAddr, Sem.run_bind, Sem.run_pure, Result.andThen_ok, h7]
theorem resVs_run {B : Base} {cx : Cx} {a : Act} {w : World} (h : SR B n cx s σ a w) : ∀ {rs : List ResultVar} {k : List V → Prop}, resVs P s σ rs k →
    ∃ vs xs, k vs ∧ VAs w cx vs xs ∧ (rs.mapM (resF a.tmps)).run P w = .ok xs w
  | [], k, hk => ⟨[], [], hk, .nil, by simp [Sem.run_pure]⟩
  | r :: rs, k, hk => by
    obtain ⟨v, x, hk, hv, hr⟩ := resV_run h hk
    obtain ⟨vs, xs, hk, hvs, hrs⟩ := resVs_run h hk
    exact ⟨v :: vs, x :: xs, hk, .cons hv hvs, by simp [List.mapM_cons, Sem.run_bind, hr, hrs]⟩
def outV : List Value → Value
  | [x] => x
  | xs => .tuple ⟨xs⟩
theorem results_eq (fn : Func) (tmps : Array Value) : results fn tmps = (do let vs ← fn.results.mapM (resF tmps); pure (if h : vs.size = 1 then vs[0] else .tuple vs)) := by
  unfold results
  have e : (fun x => match x with | .tmp t => (pure (tmps.getD t undef) : Sem Value) | .cell a t => do loadVar t (← asAddr (tmps.getD a undef))) = resF tmps := by
    funext r; cases r <;> rfl
  exact congrArg (fun f => (do let vs ← fn.results.mapM f; pure (if h : vs.size = 1 then vs[0] else .tuple vs))) e
theorem results_run {fn : Func} {rs : List ResultVar} (hr : fn.results = ⟨rs⟩) (tmps : Array Value) (w : World) {xs : List Value} (h : (rs.mapM (resF tmps)).run P w = .ok xs w) :
    (results fn tmps).run P w = .ok (outV xs) w := by
  rw [results_eq, hr, List.mapM_toArray]
  simp only [Sem.run_bind, Sem.run_map, h, Result.andThen_ok]
  match xs with
  | [] => rfl
  | [x] => rfl
  | x :: y :: xs => simp [outV]
theorem retV_out {w : World} {cx : Cx} {vs : List V} {xs : List Value} {k : V → Prop} (hv : VAs w cx vs xs) (hk : retV k vs) : ∃ v, k v ∧ VR w cx v (outV xs) := by
  have hl := hv.1
  have tup : VR w cx (.tup (vs.map wk)) (.tuple ⟨xs⟩) := .tup hv.wk.1 hv.wk.2
  match vs, xs with
  | [], [] => exact ⟨_, hk, tup⟩
  | [v], [x] => exact ⟨_, hk, wk_VR (hv.2 0 v x rfl rfl)⟩
  | v :: u :: vs, x :: y :: xs => exact ⟨_, hk, tup⟩
  | [], x :: xs => simp at hl
  | [v], [] => simp at hl
  | [v], x :: y :: xs => simp at hl
  | v :: u :: vs, [] => simp at hl
  | v :: u :: vs, [x] => simp at hl
/-- A function, from its body. -/
theorem ACalls.intro {f : FuncId} {fn : Func} {c : Code} {rs : List ResultVar} {args : List V} {R : V → Hp → Prop}
    (hcall : ∀ (xs : Array Value) (w : World), (callFunc f xs).run P w = .ok (.enter f xs) w)
    (hf : P.funcs[f]? = some fn) (hb : fn.body = some c) (hn : fn.ntmps = n) (hr : fn.results = ⟨rs⟩) (hl : args.length ≤ n)
    (h : AW P n c (retS P rs R) (enterS args) σ) : ACalls P f args σ R := by
  refine ⟨hcall, fun cx w xs hH ha => calls_of_wpM hf hb ?_⟩
  have hlx : xs.length ≤ n := by rw [← ha.1]; exact hl
  let B : Base := { cx := cx, F := σ.own cx, w := w, g := fun k => ∃ y, σ.gr k = some y, o := fun g => ∃ y, σ.obj g = some y }
  have hfoot : foot cx σ (fun _ => none) = σ.own cx := by
    funext g
    refine propext ⟨fun hg => ?_, fun hg => .inl hg⟩
    rcases hg with hg | ⟨d, c, hd, _⟩
    · exact hg
    · cases hd
  have hSR : SR B n cx (enterS args) σ { tmps := (⟨xs⟩ : Array Value) ++ Array.replicate (fn.ntmps - xs.length) undef, defers := [] } w := by
    refine ⟨by simp [hn]; omega, Marks.nil, fun _ => rfl, fun t => ?_, hH, ⟨fun d c hd => (by cases hd), fun d c hd => (by cases hd), fun d e c c' hd => (by cases hd)⟩, ?_, fun k x hk => .inl ⟨x, hk⟩, fun g x hk => .inl ⟨x, hk⟩, fun g hs => hs.elim, fun g hs => hs.elim, fun d c hd => (by cases hd)⟩
    · show TR w cx (args.getD t .junk) _
      by_cases ht : t < args.length
      · have h1 : args[t]? = some args[t] := List.getElem?_eq_getElem ht
        have htx : t < xs.length := by rw [← ha.1]; exact ht
        have h2 : xs[t]? = some xs[t] := List.getElem?_eq_getElem htx
        have h3 := ha.2 t _ _ h1 h2
        have e1 : args.getD t .junk = args[t] := by simp [List.getD, h1]
        have e2 : ((⟨xs⟩ : Array Value) ++ Array.replicate (fn.ntmps - xs.length) undef).getD t undef = xs[t] := by
          simp [Array.getD_eq_getD_getElem?, Array.getElem?_append, htx]
        rw [e1]
        show TR w cx _ (((⟨xs⟩ : Array Value) ++ Array.replicate (fn.ntmps - xs.length) undef).getD t undef)
        rw [e2]
        exact .v h3
      · have e1 : args.getD t .junk = .junk := by simp [List.getD, List.getElem?_eq_none (Nat.le_of_not_lt ht)]
        rw [e1]; exact .junk _
    · show Ext cx (σ.own cx) w cx (foot cx σ fun _ => none) w
      rw [hfoot]; exact .refl _ _ _
  have fin : ∀ (e : Exit) (a : Act) (w' : World), QC B n (retS P rs R) e a w' → bodyPostM Fence.wide 0 P fn (fun e w' => ∃ v r cx' σ', e = .returned r ∧ VR w' cx' v r ∧ Left cx σ w cx' σ' w' ∧ R v σ') e a w' := fun e a w' ⟨cx', s', σ', h1, h2⟩ => by
    have key : resVs P s' σ' rs (retV fun v => R v σ') → LeavesInM Fence.wide 0 P fn a.tmps (fun e w' => ∃ v r cx' σ', e = .returned r ∧ VR w' cx' v r ∧ Left cx σ w cx' σ' w' ∧ R v σ') a.defers .returning w' := fun h2 =>
      leavesM ⟨fun g hg => hg, rfl⟩ a.defers w' h1 fun w'' h1 => by
        obtain ⟨vs, ys, h3, h4, h5⟩ := resVs_run h1 h2
        obtain ⟨u, h6, h7⟩ := retV_out h4 h3
        refine ⟨outV ys, results_run hr _ _ h5, u, _, cx', σ', rfl, h7, ⟨h1.heap, ?_, h1.gnew, h1.onew⟩, h6⟩
        have he := h1.ext
        exact ⟨he.os, he.tape, he.output, he.size, he.block, he.le, he.inew, fun g hg => he.fnew g (.inl hg)⟩
    cases e with
    | normal => exact key h2
    | ret => exact key h2
    | _ => exact h2.elim
  exact wp_mono (h B cx _ w ⟨fun g hg => hg, rfl⟩ rfl hSR) fin
/-- One that leaves the heap alone. -/
theorem PCalls.intro {f : FuncId} {fn : Func} {c : Code} {rs : List ResultVar} {args : List V} {R : V → Prop}
    (hcall : ∀ (xs : Array Value) (w : World), (callFunc f xs).run P w = .ok (.enter f xs) w)
    (hf : P.funcs[f]? = some fn) (hb : fn.body = some c) (hn : fn.ntmps = n) (hr : fn.results = ⟨rs⟩) (hl : args.length ≤ n)
    (h : AW P n c (retS P rs fun v σ' => σ' = Hp.empty ∧ R v) (enterS args) Hp.empty) : PCalls P f args R := ACalls.intro hcall hf hb hn hr hl h
end
end Go.Abs
namespace Go.Abs
open Go
@[simp] theorem St.put_t (s : St) (d : Nat) (v : V) (x : Nat) : (s.put d v).t x = if x = d then v else s.t x := rfl
@[simp] theorem St.put_l (s : St) (d : Nat) (v : V) : (s.put d v).l = s.l := rfl
@[simp] theorem St.new_t (s : St) (d : Nat) (c : List V) (x : Nat) : (s.new d c).t x = if x = d then .lp d 0 else kill d (s.t x) := rfl
@[simp] theorem St.new_l (s : St) (d : Nat) (c : List V) (x : Nat) : (s.new d c).l x = if x = d then some c else s.l x := rfl
@[simp] theorem St.setl_t (s : St) (d : Nat) (c : List V) (x : Nat) : (s.setl d c).t x = s.t x := rfl
@[simp] theorem St.setl_l (s : St) (d : Nat) (c : List V) (x : Nat) : (s.setl d c).l x = if x = d then some c else s.l x := rfl
theorem enterS_t (args : List V) (t : Nat) : (enterS args).t t = args.getD t .junk := rfl
theorem enterS_l (args : List V) (t : Nat) : (enterS args).l t = none := rfl
section
variable {P : Program} {T : Tab} {n : Nat} {s : St} {σ : Hp} {Q Q' : Exit → St → Hp → Prop}
/-- With a word on what holds in between. -/
theorem AW.seq_j {x y : Code} (J : St → Hp → Prop) (h : AW P n x (thenS J Q) s σ) (hy : ∀ s σ, J s σ → AW P n y Q s σ) : AW P n (.seq x y) Q s σ :=
  .seq (h.mono fun e s σ h => by cases e <;> first | exact hy s σ h | exact h)
/-- A region that keeps its order, at a table of its own. -/
theorem AW.reg0 {id : Nat} {l : List Oper} (h : semL P {} n (l.map (·.dst)) l (fun s σ => Q .normal s σ) s σ) : AW P n (.region id l.toArray false) Q s σ :=
  .region (T := {}) (fun _ _ h => by cases h) rfl h
theorem gate_some {ds : List (Option Nat)} {j d : Nat} {want : Bool} {yes no : Prop} {b : Bool} (hd : ds[j]? = some (some d)) (hb : s.t d = .c (.bool b)) : gate ds s (some (j, want)) yes no = if b = want then yes else no := by
  simp [gate, hd, hb]
theorem retS_normal {rs : List ResultVar} {R : V → Hp → Prop} : retS P rs R .normal s σ = resVs P s σ rs (retV fun v => R v σ) := rfl
theorem retS_ret {rs : List ResultVar} {R : V → Hp → Prop} : retS P rs R .ret s σ = resVs P s σ rs (retV fun v => R v σ) := rfl
theorem thenS_normal {K : St → Hp → Prop} : thenS K Q .normal s σ = K s σ := rfl
theorem thenS_ret {K : St → Hp → Prop} : thenS K Q .ret s σ = Q .ret s σ := rfl
theorem thenS_exit {K : St → Hp → Prop} {i : Nat} : thenS K Q (.exit i) s σ = Q (.exit i) s σ := rfl
theorem inBlockS_normal {i : Nat} : inBlockS i Q .normal s σ = Q .normal s σ := rfl
theorem inBlockS_ret {i : Nat} : inBlockS i Q .ret s σ = Q .ret s σ := rfl
theorem inBlockS_exit {i j : Nat} : inBlockS i Q (.exit j) s σ = if j = i then Q .normal s σ else Q (.exit j) s σ := rfl
theorem St.ext {s s' : St} (h1 : s.t = s'.t) (h2 : s.l = s'.l) : s = s' := by cases s; cases s'; simp_all
theorem S.go {ds : List (Option Nat)} {o : Oper} {r : List Oper} {K : St → Hp → Prop} (hd : dOK n o.dst) (hg : o.guard = none)
    (h : ∀ K' : St → Hp → Prop, (∀ s σ, semL P T n ds r K s σ → K' s σ) → semOp P T o K' s σ) : semL P T n ds (o :: r) K s σ :=
  ⟨hd, by rw [hg]; exact h _ fun _ _ h => h⟩
theorem S.yes {ds : List (Option Nat)} {o : Oper} {r : List Oper} {K : St → Hp → Prop} {j d : Nat} {b : Bool} (hd : dOK n o.dst) (hg : o.guard = some (j, b)) (hj : ds[j]? = some (some d)) (hb : s.t d = .c (.bool b))
    (h : ∀ K' : St → Hp → Prop, (∀ s σ, semL P T n ds r K s σ → K' s σ) → semOp P T o K' s σ) : semL P T n ds (o :: r) K s σ :=
  ⟨hd, by rw [hg, gate_some hj hb, if_pos rfl]; exact h _ fun _ _ h => h⟩
theorem S.no {ds : List (Option Nat)} {o : Oper} {r : List Oper} {K : St → Hp → Prop} {j d : Nat} {b : Bool} (hd : dOK n o.dst) (hg : o.guard = some (j, b)) (hj : ds[j]? = some (some d)) (hb : s.t d = .c (.bool (!b)))
    (h : ∀ K' : St → Hp → Prop, (∀ s σ, semL P T n ds r K s σ → K' s σ) → K' (s.putO o.dst (.c undef)) σ) : semL P T n ds (o :: r) K s σ :=
  ⟨hd, by rw [hg, gate_some hj hb, if_neg (by cases b <;> simp)]; exact h _ fun _ _ h => h⟩
theorem S.un {ds : List (Option Nat)} {o : Oper} {r : List Oper} {K : St → Hp → Prop} {j d : Nat} {b : Bool} (hd : dOK n o.dst) (hg : o.guard = some (j, b)) (hj : ds[j]? = some (some d)) (hb : s.t d = .c undef)
    (h : ∀ K' : St → Hp → Prop, (∀ s σ, semL P T n ds r K s σ → K' s σ) → K' (s.putO o.dst (.c undef)) σ) : semL P T n ds (o :: r) K s σ :=
  ⟨hd, by rw [hg]; simp only [gate, hj, hb, undef]; exact h _ fun _ _ h => h⟩
theorem S.bool {K : St → Hp → Prop} {d : Nat} {x : Bool} (h : ∀ b, x = b → K (s.put d (.c (.bool b))) σ) : K (s.put d (.c (.bool x))) σ := h x rfl
theorem S.nil {ds : List (Option Nat)} {K : St → Hp → Prop} (h : K s σ) : semL P T n ds [] K s σ := h
end
end Go.Abs
namespace Go.Abs
open Go
def fz1 (k : Nat) (es : List (List V)) : V → V
  | .gl j => if j = k then .sl es else .gl j
  | v => v
def fzV (k : Nat) (es : List (List V)) : V → V
  | .agg vs => .agg (vs.map (fz1 k es))
  | v => fz1 k es v
/-- The state, when a growing list is to be written no more. -/
def St.fz (s : St) (k : Nat) (es : List (List V)) : St := ⟨fun t => fzV k es (s.t t), fun d => (s.l d).map fun cs => cs.map (fz1 k es)⟩
@[simp] theorem St.fz_t (s : St) (k : Nat) (es : List (List V)) (t : Nat) : (s.fz k es).t t = fzV k es (s.t t) := rfl
@[simp] theorem St.fz_l (s : St) (k : Nat) (es : List (List V)) (d : Nat) : (s.fz k es).l d = (s.l d).map fun cs => cs.map (fz1 k es) := rfl
section
variable {P : Program} {B : Base} {n : Nat} {cx : Cx} {s : St} {σ : Hp} {a : Act} {w : World} {Q : Exit → St → Hp → Prop}
/-- A growing list, frozen: how to read it so. -/
theorem HR.freeze (h : HR cx σ w) {k : Nat} {T : TypeId × Nat} {es : List (List V)} (hk : σ.gr k = some (T, es)) :
    ∃ cx', cx.le cx' ∧ cx'.L = cx.L ∧ (∀ g, cx'.I g → cx.I g ∨ (cx.M k).ownBlock = some g) ∧ HR cx' (σ.setGr k none) w ∧ VR w cx' (.sl es) (cx.M k) := by
  have sub : HR cx (σ.setGr k none) w := h.sub (fun _ _ h => h) (fun j x hj => by
    by_cases e : j = k
    · simp [Hp.setGr, e] at hj
    · simpa [Hp.setGr, e] using hj)
  obtain ⟨hkn, hZ, hel, xs, hown, hxs⟩ := h.gr k T es hk
  rcases hown.2 with ⟨hM, h0⟩ | ⟨g, cap, cur, hM, _, hbl, hcap, _, hcs, htk⟩
  · have : es = [] := List.eq_nil_of_length_eq_zero h0
    subst this
    exact ⟨cx, .refl _, rfl, fun g hg => .inl hg, sub, by rw [hM]; exact .nils⟩
  · have hg : (cx.M k).ownBlock = some g := by rw [hM]; rfl
    have hno : ¬ (σ.setGr k none).own cx g := by
      rintro (⟨c, hc⟩ | ⟨j, x, hj, hb⟩)
      · exact h.mix k _ g c hk hc hg
      · by_cases e : j = k
        · simp [Hp.setGr, e] at hj
        · simp only [Hp.setGr, e, if_false] at hj
          exact e (h.two j k x _ g hj hk hb hg)
    refine ⟨cx.addI g, cx.le_addI g, rfl, fun g' hg' => (show cx.I g' ∨ g' = g from hg').imp id (fun e => by rw [e]; exact hg), ?_, ?_⟩
    · exact sub.keep (cx.le_addI g) (fun _ => False) (fun _ h => h.elim) (fun _ h => h.elim) (fun g' (hg' : cx.I g' ∨ g' = g) ho => by
          rcases hg' with h1 | h1
          · exact sub.apart g' ho h1
          · exact hno (h1 ▸ ho))
        (fun g' (hg' : cx.I g' ∨ g' = g) => by
          rcases hg' with h1 | h1
          · exact h.ilt g' h1
          · rw [h1]; exact lt_of_block hbl) (fun _ _ _ => rfl)
    · rw [hM]
      refine VR.sl_of_row (.inr rfl) hcap hel (hxs.keep (fun _ _ => rfl) (cx.le_addI g)) (fun j x hj => ?_)
      rw [cell_of_row w g (0 + j) cur _ _ hbl, Nat.zero_add]
      have hj' : xs[j]? = (cur.toList.take (es.length * cx.Z k))[j]? := by rw [htk]
      rw [hj'] at hj
      rw [List.getElem?_take] at hj
      split at hj
      · simpa using hj
      · cases hj
theorem fz1_VR {cx' : Cx} (hle : cx.le cx') {k : Nat} {es : List (List V)} (hv : VR w cx' (.sl es) (cx.M k)) {v : V} {x : Value} (h : VR w cx v x) : VR w cx' (fz1 k es v) x := by
  unfold fz1
  split
  · rename_i j
    by_cases e : j = k
    · rw [if_pos e]; subst e
      cases h
      exact hv
    · rw [if_neg e]; exact h.keep (fun _ _ => rfl) hle
  · exact h.keep (fun _ _ => rfl) hle
theorem fzs_VRs {cx' : Cx} (hle : cx.le cx') {k : Nat} {es : List (List V)} (hv : VR w cx' (.sl es) (cx.M k)) {vs : List V} {xs : List Value} (h : VRs w cx vs xs) : VRs w cx' (vs.map (fz1 k es)) xs :=
  ⟨by simpa using h.1, h.2.1, fun i v x hi hx => by
    simp only [List.getElem?_map, Option.map_eq_some_iff] at hi
    obtain ⟨u, hu, rfl⟩ := hi
    exact fz1_VR hle hv (h.2.2 i u x hu hx)⟩
theorem fzV_VR {cx' : Cx} (hle : cx.le cx') {k : Nat} {es : List (List V)} (hv : VR w cx' (.sl es) (cx.M k)) {v : V} {x : Value} (h : VR w cx v x) : VR w cx' (fzV k es v) x := by
  unfold fzV
  split
  · cases h with
    | agg h1 hn hh =>
      have := fzs_VRs hle hv ⟨hn, h1, hh⟩
      exact .agg this.2.1 this.1 this.2.2
  · exact fz1_VR hle hv h
theorem SR.freeze (h : SR B n cx s σ a w) {k : Nat} {T : TypeId × Nat} {es : List (List V)} (hk : σ.gr k = some (T, es)) : ∃ cx', SR B n cx' (s.fz k es) (σ.setGr k none) a w := by
  obtain ⟨cx', hle, hL, hI, hH, hv⟩ := h.heap.freeze hk
  have own' : ∀ g, (σ.setGr k none).own cx' g → σ.own cx g := fun g hg => by
    rcases hg with ⟨c, hc⟩ | ⟨j, x, hj, hb⟩
    · exact .inl ⟨c, hc⟩
    · by_cases e : j = k
      · simp [Hp.setGr, e] at hj
      · simp only [Hp.setGr, e, if_false] at hj
        exact .inr ⟨j, x, hj, by rw [← hle.M j (h.heap.gr j x.1 x.2 hj).1]; exact hb⟩
  have h1 : SR B n cx' s (σ.setGr k none) a w := h.heapstep hle hL (fun g hg => (hI g hg).imp id (fun e => .inl (.inr ⟨k, _, hk, e⟩))) (fun g hg => .inl (own' g hg)) rfl rfl rfl (Nat.le_refl _) (fun _ _ _ => rfl) hH
    (fun j x hj => by
      by_cases e : j = k
      · simp [Hp.setGr, e] at hj
      · simp only [Hp.setGr, e, if_false] at hj; exact .inl ⟨x, hj⟩) (fun g x hx => .inl ⟨x, hx⟩)
  have hfe : foot cx' (σ.setGr k none) (s.fz k es).l = foot cx' (σ.setGr k none) s.l := by
    funext g
    refine propext (or_congr Iff.rfl ⟨fun ⟨d, c, hd, e⟩ => ?_, fun ⟨d, c, hd, e⟩ => ⟨d, c.map (fz1 k es), by simp [hd], e⟩⟩)
    simp only [St.fz_l, Option.map_eq_some_iff] at hd
    obtain ⟨c, hc, rfl⟩ := hd
    exact ⟨d, c, hc, e⟩
  refine ⟨cx', h1.size, by rw [hfe]; exact h1.defers, h1.nd, fun t => ?_, h1.heap, ⟨fun d cells hd => ?_, fun d cells hd => ?_, fun d e c c' hd he => ?_⟩, ?_, h1.gnew, h1.onew, h1.stab, h1.stN, fun d c hd => ?_⟩
  · have ht := h.tmp t
    show TR w cx' (fzV k es (s.t t)) _
    generalize s.t t = v at ht
    generalize a.tmps.getD t undef = x at ht
    cases ht with
    | v hv' => exact .v (fzV_VR hle hv hv')
    | lp d off => rw [← hL]; exact .lp d off
    | junk => exact .junk _
  · simp only [St.fz_l, Option.map_eq_some_iff] at hd
    obtain ⟨c, hc, rfl⟩ := hd
    obtain ⟨T', cs, h2, h3⟩ := h.box.box d c hc
    rw [hL]
    exact ⟨T', cs, h2, fzs_VRs hle hv h3⟩
  · simp only [St.fz_l, Option.map_eq_some_iff] at hd
    obtain ⟨c, hc, rfl⟩ := hd
    exact h1.box.apart d c hc
  · simp only [St.fz_l, Option.map_eq_some_iff] at hd he
    obtain ⟨c, hc, rfl⟩ := hd
    obtain ⟨c', hc', rfl⟩ := he
    exact h1.box.inj d e c c' hc hc'
  · have e : foot cx' (σ.setGr k none) (s.fz k es).l = foot cx' (σ.setGr k none) s.l := by
      funext g
      refine propext (or_congr Iff.rfl ⟨fun ⟨d, c, hd, e⟩ => ?_, fun ⟨d, c, hd, e⟩ => ⟨d, c.map (fz1 k es), by simp [hd], e⟩⟩)
      simp only [St.fz_l, Option.map_eq_some_iff] at hd
      obtain ⟨c, hc, rfl⟩ := hd
      exact ⟨d, c, hc, e⟩
    rw [e]; exact h1.ext
  · simp only [St.fz_l, Option.map_eq_some_iff] at hd
    obtain ⟨c, hc, rfl⟩ := hd
    exact h1.stS d c hc
theorem AW.freeze {c : Code} {k : Nat} {T : TypeId × Nat} {es : List (List V)} (hk : σ.gr k = some (T, es)) (h : AW P n c Q (s.fz k es) (σ.setGr k none)) : AW P n c Q s σ :=
  fun B _ a w h1 h2 h3 => by
    obtain ⟨cx', h4⟩ := h3.freeze hk
    exact h B cx' a w h1 h2 h4
end
end Go.Abs
namespace Go.Abs
open Go
section
variable {P : Program} {σ : Hp}
/-- What a frame owns may be forgotten. -/
theorem SR.sub {B : Base} {n : Nat} {cx : Cx} {s : St} {σ' : Hp} {a : Act} {w : World} (h : SR B n cx s σ a w) (ho : ∀ g x, σ'.obj g = some x → σ.obj g = some x) (hg : ∀ k x, σ'.gr k = some x → σ.gr k = some x) : SR B n cx s σ' a w :=
  h.heapstep (.refl _) rfl (fun _ hg => .inl hg) (fun _ hg' => .inl (own_sub ho hg hg')) rfl rfl rfl (Nat.le_refl _) (fun _ _ _ => rfl) (h.heap.sub ho hg) (fun k x hk => .inl ⟨x, hg k x hk⟩) (fun g x hx => .inl ⟨x, ho g x hx⟩)
theorem AW.sub {n : Nat} {c : Code} {s : St} {σ' : Hp} {Q : Exit → St → Hp → Prop} (ho : ∀ g x, σ'.obj g = some x → σ.obj g = some x) (hg : ∀ k x, σ'.gr k = some x → σ.gr k = some x) (h : AW P n c Q s σ') : AW P n c Q s σ :=
  fun B cx a w h1 h2 h3 => h B cx a w h1 h2 (h3.sub ho hg)
theorem AW.bare {n : Nat} {c : Code} {s : St} {Q : Exit → St → Hp → Prop} (h : AW P n c Q s Hp.empty) : AW P n c Q s σ := .sub (fun _ _ h => by cases h) (fun _ _ h => by cases h) h
@[simp] theorem Hp.setObj_obj (σ : Hp) (g : Nat) (x : Option (List V)) (j : Nat) : (σ.setObj g x).obj j = if j = g then x else σ.obj j := rfl
@[simp] theorem Hp.setObj_gr (σ : Hp) (g : Nat) (x : Option (List V)) (j : Nat) : (σ.setObj g x).gr j = σ.gr j := rfl
@[simp] theorem Hp.setGr_gr (σ : Hp) (g : Nat) (x : Option ((TypeId × Nat) × List (List V))) (j : Nat) : (σ.setGr g x).gr j = if j = g then x else σ.gr j := rfl
@[simp] theorem Hp.setGr_obj (σ : Hp) (g : Nat) (x : Option ((TypeId × Nat) × List (List V))) (j : Nat) : (σ.setGr g x).obj j = σ.obj j := rfl
@[simp] theorem Hp.setObj_setObj (σ : Hp) (g : Nat) (x y : Option (List V)) : (σ.setObj g x).setObj g y = σ.setObj g y := by
  simp only [Hp.setObj, Hp.mk.injEq, and_true]
  funext j
  by_cases e : j = g <;> simp [e]
@[simp] theorem Hp.setGr_setGr (σ : Hp) (g : Nat) (x y : Option ((TypeId × Nat) × List (List V))) : (σ.setGr g x).setGr g y = σ.setGr g y := by
  simp only [Hp.setGr, Hp.mk.injEq, true_and]
  funext j
  by_cases e : j = g <;> simp [e]
@[simp] theorem Hp.empty_setGr (k : Nat) : Hp.empty.setGr k none = Hp.empty := by
  simp only [Hp.setGr, Hp.empty, Hp.mk.injEq, true_and]
  funext j
  by_cases e : j = k <;> simp [e]
@[simp] theorem Hp.empty_setObj (k : Nat) : Hp.empty.setObj k none = Hp.empty := by
  simp only [Hp.setObj, Hp.empty, Hp.mk.injEq, and_true]
  funext j
  by_cases e : j = k <;> simp [e]
theorem Hp.setGr_none {k : Nat} (h : σ.gr k = none) : σ.setGr k none = σ := by
  cases σ with
  | mk o g =>
    simp only [Hp.setGr, Hp.mk.injEq, true_and]
    funext j
    by_cases e : j = k
    · simp only [e, if_true]; exact h.symm
    · simp only [e, if_false]
/-- A call, in a state. -/
theorem ACalls.to {f : FuncId} {args : List V} {R R' : V → Hp → Prop} (h : ACalls P f args σ R) (hr : ∀ v σ', R v σ' → R' v σ') : ACalls P f args σ R' := h.mono hr
theorem PCalls.to {f : FuncId} {args : List V} {R : V → Prop} {R' : V → Hp → Prop} (h : PCalls P f args R) (hr : ∀ v, R v → R' v σ) : ACalls P f args σ R' :=
  (h.at σ).mono fun v σ' ⟨h1, h2⟩ => by subst h1; exact hr v h2
theorem PCalls.eqto {f : FuncId} {args : List V} {u : V} {R' : V → Hp → Prop} (h : PCalls P f args (fun v => v = u)) (hr : R' u σ) : ACalls P f args σ R' := h.to fun v e => by subst e; exact hr
end
end Go.Abs
namespace Go.Abs
open Go
theorem str_nil (s : ByteArray) : (s.toList == (ByteArray.mk #[]).toList) = decide (s.size = 0) := by
  rw [ByteArray.toList_eq, ByteArray.toList_eq]
  have e : s.size = s.data.toList.length := by rw [Array.length_toList]; rfl
  rw [e]
  cases s.data.toList <;> rfl
section
variable {P : Program} {T : Tab} {n : Nat} {s : St} {σ : Hp} {Q Q' : Exit → St → Hp → Prop}
def stC (T : Tab) (s : St) : Nat → Op → Prop
  | 1, .load _ x => steady T.sd (ev s x) = true
  | 1, _ => False
  | _, _ => True
theorem D.go {ops : List Oper} {ds : List (Option Nat)} {i k : Nat} {o : Oper} {r : List (Nat × Nat)} {K : St → Hp → Prop} (ho : ops[i]? = some o) (hs : stC T s k o.op) (hd : dOK n o.dst) (hg : o.guard = none)
    (h : ∀ K' : St → Hp → Prop, (∀ s σ, semD P T n ops ds r K s σ → K' s σ) → semOp P T o K' s σ) : semD P T n ops ds ((i, k) :: r) K s σ := by
  simp only [semD, ho]
  refine ⟨hd, ?_, by rw [hg]; exact h _ fun _ _ h => h⟩
  unfold stC at hs
  split at hs <;> simp_all [gate]
theorem D.yes {ops : List Oper} {ds : List (Option Nat)} {i k : Nat} {o : Oper} {r : List (Nat × Nat)} {K : St → Hp → Prop} {j d : Nat} {b : Bool} (ho : ops[i]? = some o) (hs : stC T s k o.op) (hd : dOK n o.dst) (hg : o.guard = some (j, b)) (hj : ds[j]? = some (some d)) (hb : s.t d = .c (.bool b))
    (h : ∀ K' : St → Hp → Prop, (∀ s σ, semD P T n ops ds r K s σ → K' s σ) → semOp P T o K' s σ) : semD P T n ops ds ((i, k) :: r) K s σ := by
  simp only [semD, ho]
  refine ⟨hd, ?_, by rw [hg, gate_some hj hb, if_pos rfl]; exact h _ fun _ _ h => h⟩
  unfold stC at hs
  split at hs <;> simp_all [gate]
theorem stC_gate {ds : List (Option Nat)} {o : Oper} {k j d : Nat} {b : Bool} (hk : k = 1 → isLoad o.op = true) (hg : o.guard = some (j, b)) (hj : ds[j]? = some (some d)) (hb : s.t d = .c (.bool (!b)) ∨ s.t d = .c undef) :
    (match (generalizing := false) k, o.op with
       | 1, .load _ x => gate ds s o.guard (steady T.sd (ev s x) = true) True
       | 1, _ => False
       | _, _ => True) := by
  split
  · rcases hb with hb | hb
    · simp [gate, hg, hj, hb]
    · simp [gate, hg, hj, hb, undef]
  · rename_i op hne
    have := hk rfl
    unfold isLoad at this
    split at this
    · rename_i h1; exact hne _ _ h1
    · cases this
  · trivial
theorem D.no {ops : List Oper} {ds : List (Option Nat)} {i k : Nat} {o : Oper} {r : List (Nat × Nat)} {K : St → Hp → Prop} {j d : Nat} {b : Bool} (ho : ops[i]? = some o) (hk : k = 1 → isLoad o.op = true) (hd : dOK n o.dst) (hg : o.guard = some (j, b)) (hj : ds[j]? = some (some d)) (hb : s.t d = .c (.bool (!b)))
    (h : ∀ K' : St → Hp → Prop, (∀ s σ, semD P T n ops ds r K s σ → K' s σ) → K' (s.putO o.dst (.c undef)) σ) : semD P T n ops ds ((i, k) :: r) K s σ := by
  simp only [semD, ho]
  exact ⟨hd, stC_gate (T := T) hk hg hj (.inl hb), by rw [hg, gate_some hj hb, if_neg (by cases b <;> simp)]; exact h _ fun _ _ h => h⟩
theorem D.un {ops : List Oper} {ds : List (Option Nat)} {i k : Nat} {o : Oper} {r : List (Nat × Nat)} {K : St → Hp → Prop} {j d : Nat} {b : Bool} (ho : ops[i]? = some o) (hk : k = 1 → isLoad o.op = true) (hd : dOK n o.dst) (hg : o.guard = some (j, b)) (hj : ds[j]? = some (some d)) (hb : s.t d = .c undef)
    (h : ∀ K' : St → Hp → Prop, (∀ s σ, semD P T n ops ds r K s σ → K' s σ) → K' (s.putO o.dst (.c undef)) σ) : semD P T n ops ds ((i, k) :: r) K s σ := by
  simp only [semD, ho]
  exact ⟨hd, stC_gate (T := T) hk hg hj (.inr hb), by rw [hg]; simp only [gate, hj, hb, undef]; exact h _ fun _ _ h => h⟩
theorem D.nil {ops : List Oper} {ds : List (Option Nat)} {K : St → Hp → Prop} (h : K s σ) : semD P T n ops ds [] K s σ := h
end
end Go.Abs
namespace Go.Abs
open Go
def fitsK (ks : List SK) : Value → Bool
  | .agg xs => fitsAll ks xs.toList
  | _ => false
theorem cellEq_bits {k : SK} {x y : Value} (n : Nat) (hx : k.fits x = true) (hy : k.fits y = true) (h : cellEq x y = true) : Instr.sameBits n y x = true := by
  cases k <;> cases x <;> simp [SK.fits] at hx <;> cases y <;> simp [SK.fits] at hy
  · subst hx; subst hy
    simp [cellEq] at h
    cases n <;> simp [Instr.sameBits, h]
  · simp [cellEq] at h
    cases n <;> simp [Instr.sameBits, beq_toListBytes, h]
  · simp [cellEq] at h
    cases n <;> simp [Instr.sameBits, h]
theorem cells_bits : ∀ {ks : List SK} {xs ys : List Value} (n : Nat), fitsAll ks xs = true → fitsAll ks ys = true → cellsEq xs ys = true → xs.length = ys.length ∧ (ys.zip xs).all (fun p => Instr.sameBits n p.1 p.2) = true
  | [], [], [], _, _, _, _ => ⟨rfl, rfl⟩
  | [], _ :: _, _, _, h, _, _ => by simp [fitsAll] at h
  | [], [], _ :: _, _, _, h, _ => by simp [fitsAll] at h
  | _ :: _, [], _, _, h, _, _ => by simp [fitsAll] at h
  | _ :: _, _ :: _, [], _, _, h, _ => by simp [fitsAll] at h
  | k :: ks, x :: xs, y :: ys, n, hx, hy, h => by
    simp only [fitsAll, cellsEq, Bool.and_eq_true] at hx hy h
    obtain ⟨h1, h2⟩ := cells_bits n hx.2 hy.2 h.2
    exact ⟨by simp [h1], by simp only [List.zip_cons_cons, List.all_cons, Bool.and_eq_true]; exact ⟨cellEq_bits n hx.1 hy.1 h.1, h2⟩⟩
/-- A struct of plain cells as a map's key. -/
theorem KeyT.struct {P : Program} {kt : TypeId} {ks : List SK} {fs : Array Field} (hu : P.underlying kt = some (.struct fs)) (hE : EqT P kt ks)
    (hc : ∀ em (xs : List Value) (w : World), fitsAll ks xs = true → (Instr.checkKey em 10000 kt (.agg ⟨xs⟩)).run P w = .ok () w) : KeyT P kt (fitsK ks) := by
  have agg : ∀ x, fitsK ks x = true → ∃ xs, x = .agg ⟨xs⟩ ∧ fitsAll ks xs = true := fun x hx => by
    cases x <;> simp [fitsK] at hx
    rename_i xs
    exact ⟨xs.toList, rfl, hx⟩
  have ask : ∀ (x : Value) (ms : List MapEntry) (w : World) (i : Nat), fitsK ks x = true → (∀ m ∈ ms, fitsK ks m.key = true) → (Instr.findAsking kt x ms i).run P w = .ok (findM x ms i) w := by
    intro x ms w i hx
    induction ms generalizing i with
    | nil => intro _; rfl
    | cons m ms ih =>
      intro hm
      obtain ⟨xs, rfl, h1⟩ := agg x hx
      obtain ⟨ys, h2, h3⟩ := agg m.key (hm m List.mem_cons_self)
      have he := hE.2 xs ys h1 h3 w
      have ih' := ih (i + 1) (fun m' h' => hm m' (List.mem_cons_of_mem _ h'))
      simp only [Instr.findAsking, findM, h2, Sem.run_bind, he, Result.andThen_ok, sameK]
      cases cellsEq xs ys with
      | true => rfl
      | false => simpa using ih'
  refine ⟨fun em x w hx => ?_, fun x ms w hx hm => ?_, fun x y w hx hy hs => ?_⟩
  · obtain ⟨xs, rfl, h⟩ := agg x hx; exact hc em xs w h
  · have h1 := ask x ms w 0 hx hm
    unfold Instr.findKey
    rw [Sem.run_bind, run_underlying hu]
    simp only [Result.andThen_ok]
    cases ms with
    | nil => rfl
    | cons m ms =>
      have : Instr.findNow (.struct fs) x (m :: ms) 0 = none := by simp [Instr.findNow, Instr.sameNow]
      rw [this]
      exact h1
  · obtain ⟨xs, rfl, h1⟩ := agg x hx
    obtain ⟨ys, rfl, h2⟩ := agg y hy
    obtain ⟨h3, h4⟩ := cells_bits 9999 h1 h2 hs
    have : Instr.sameBits 10000 (.agg ⟨ys⟩) (.agg ⟨xs⟩) = true := by
      simp only [Instr.sameBits, Bool.and_eq_true]
      exact ⟨by simp [h3], h4⟩
    simp [Instr.keyThatStays, this]
section
variable {P : Program} {d : Nat} {xs ys : Array Value} {f : Field} {fs : List Field} {a b : Value} {r s : Bool} {w : World}
theorem eqF_one (hn : (f.name == "_") = false) (ha : (part f.type xs f.offset).run P w = .ok a w) (hb : (part f.type ys f.offset).run P w = .ok b w) (he : (Op.equalIn d f.type a b).run P w = .ok r w) : (Op.eqFields d xs ys [f]).run P w = .ok r w := by
  have hn' : f.name ≠ "_" := by simpa using hn
  simp only [Op.eqFields, if_pos hn', Sem.run_bind, ha, hb, he, Result.andThen_ok]
  cases r <;> simp
theorem eqF_more (hn : (f.name == "_") = false) (ha : (part f.type xs f.offset).run P w = .ok a w) (hb : (part f.type ys f.offset).run P w = .ok b w) (he : (Op.equalIn d f.type a b).run P w = .ok r w) (hr : (Op.eqFields d xs ys fs).run P w = .ok s w) : (Op.eqFields d xs ys (f :: fs)).run P w = .ok (r && s) w := by
  have hn' : f.name ≠ "_" := by simpa using hn
  rw [Op.eqFields]
  simp only [if_pos hn', Sem.run_bind, ha, hb, he, Result.andThen_ok]
  cases r
  · simp
  · simpa using hr
theorem eqF_of {t : TypeId} {fs : Array Field} (hu : P.underlying t = some (.struct fs)) (hp : P.stoodInHeld t = false) (h : (Op.eqFields d xs ys fs.toList).run P w = .ok r w) : (Op.equalIn (d + 1) t (.agg xs) (.agg ys)).run P w = .ok r w := by
  have hf : P.fieldsOf t = fs := by simp [Program.fieldsOf, hu]
  rw [run_equalIn_struct (P := P) w d t xs ys (by rw [hf]; exact hu) hp, hf]
  exact h
theorem run_guard_agg {op : BinOp} {t : TypeId} {x y : Operand} (h : P.eqGuardType P.depth t = false) (xs ys : Array Value) (w : World) : (eqGuard op t x y (.agg xs) (.agg ys)).run P w = .ok () w := by
  unfold eqGuard
  cases op <;> simp [h, Sem.run, Sem.run_bind, program]
end
end Go.Abs
namespace Go.Abs
open Go
section
variable {P : Program} {n : Nat} {s : St} {σ : Hp}
def retVR (k : V → Prop) : List V → Prop
  | [v] => k v
  | vs => k (.tup vs)
/-- What a body may end with, the results as they are. -/
def retSR (P : Program) (rs : List ResultVar) (R : V → Hp → Prop) : Exit → St → Hp → Prop
  | .normal, s, σ | .ret, s, σ => resVs P s σ rs (retVR fun v => R v σ)
  | _, _, _ => False
theorem retVR_out {w : World} {cx : Cx} {vs : List V} {xs : List Value} {k : V → Prop} (hv : VAs w cx vs xs) (hk : retVR k vs) : ∃ v, k v ∧ VR w cx v (outV xs) := by
  have hl := hv.1
  have tup : VR w cx (.tup vs) (.tuple ⟨xs⟩) := .tup hv.1 hv.2
  match vs, xs with
  | [], [] => exact ⟨_, hk, tup⟩
  | [v], [x] => exact ⟨_, hk, hv.2 0 v x rfl rfl⟩
  | v :: u :: vs, x :: y :: xs => exact ⟨_, hk, tup⟩
  | [], x :: xs => simp at hl
  | [v], [] => simp at hl
  | [v], x :: y :: xs => simp at hl
  | v :: u :: vs, [] => simp at hl
  | v :: u :: vs, [x] => simp at hl
/-- A function, from its body; the results as they are. -/
theorem ACalls.introR {f : FuncId} {fn : Func} {c : Code} {rs : List ResultVar} {args : List V} {R : V → Hp → Prop}
    (hcall : ∀ (xs : Array Value) (w : World), (callFunc f xs).run P w = .ok (.enter f xs) w)
    (hf : P.funcs[f]? = some fn) (hb : fn.body = some c) (hn : fn.ntmps = n) (hr : fn.results = ⟨rs⟩) (hl : args.length ≤ n)
    (h : AW P n c (retSR P rs R) (enterS args) σ) : ACalls P f args σ R := by
  refine ⟨hcall, fun cx w xs hH ha => calls_of_wpM hf hb ?_⟩
  have hlx : xs.length ≤ n := by rw [← ha.1]; exact hl
  let B : Base := { cx := cx, F := σ.own cx, w := w, g := fun k => ∃ y, σ.gr k = some y, o := fun g => ∃ y, σ.obj g = some y }
  have hfoot : foot cx σ (fun _ => none) = σ.own cx := by
    funext g
    refine propext ⟨fun hg => ?_, fun hg => .inl hg⟩
    rcases hg with hg | ⟨d, c, hd, _⟩
    · exact hg
    · cases hd
  have hSR : SR B n cx (enterS args) σ { tmps := (⟨xs⟩ : Array Value) ++ Array.replicate (fn.ntmps - xs.length) undef, defers := [] } w := by
    refine ⟨by simp [hn]; omega, Marks.nil, fun _ => rfl, fun t => ?_, hH, ⟨fun d c hd => (by cases hd), fun d c hd => (by cases hd), fun d e c c' hd => (by cases hd)⟩, ?_, fun k x hk => .inl ⟨x, hk⟩, fun g x hk => .inl ⟨x, hk⟩, fun g hs => hs.elim, fun g hs => hs.elim, fun d c hd => (by cases hd)⟩
    · show TR w cx (args.getD t .junk) _
      by_cases ht : t < args.length
      · have h1 : args[t]? = some args[t] := List.getElem?_eq_getElem ht
        have htx : t < xs.length := by rw [← ha.1]; exact ht
        have h2 : xs[t]? = some xs[t] := List.getElem?_eq_getElem htx
        have h3 := ha.2 t _ _ h1 h2
        have e1 : args.getD t .junk = args[t] := by simp [List.getD, h1]
        have e2 : ((⟨xs⟩ : Array Value) ++ Array.replicate (fn.ntmps - xs.length) undef).getD t undef = xs[t] := by
          simp [Array.getD_eq_getD_getElem?, Array.getElem?_append, htx]
        rw [e1]
        show TR w cx _ (((⟨xs⟩ : Array Value) ++ Array.replicate (fn.ntmps - xs.length) undef).getD t undef)
        rw [e2]
        exact .v h3
      · have e1 : args.getD t .junk = .junk := by simp [List.getD, List.getElem?_eq_none (Nat.le_of_not_lt ht)]
        rw [e1]; exact .junk _
    · show Ext cx (σ.own cx) w cx (foot cx σ fun _ => none) w
      rw [hfoot]; exact .refl _ _ _
  have fin : ∀ (e : Exit) (a : Act) (w' : World), QC B n (retSR P rs R) e a w' → bodyPostM Fence.wide 0 P fn (fun e w' => ∃ v r cx' σ', e = .returned r ∧ VR w' cx' v r ∧ Left cx σ w cx' σ' w' ∧ R v σ') e a w' := fun e a w' ⟨cx', s', σ', h1, h2⟩ => by
    have key : resVs P s' σ' rs (retVR fun v => R v σ') → LeavesInM Fence.wide 0 P fn a.tmps (fun e w' => ∃ v r cx' σ', e = .returned r ∧ VR w' cx' v r ∧ Left cx σ w cx' σ' w' ∧ R v σ') a.defers .returning w' := fun h2 =>
      leavesM ⟨fun g hg => hg, rfl⟩ a.defers w' h1 fun w'' h1 => by
        obtain ⟨vs, ys, h3, h4, h5⟩ := resVs_run h1 h2
        obtain ⟨u, h6, h7⟩ := retVR_out h4 h3
        refine ⟨outV ys, results_run hr _ _ h5, u, _, cx', σ', rfl, h7, ⟨h1.heap, ?_, h1.gnew, h1.onew⟩, h6⟩
        have he := h1.ext
        exact ⟨he.os, he.tape, he.output, he.size, he.block, he.le, he.inew, fun g hg => he.fnew g (.inl hg)⟩
    cases e with
    | normal => exact key h2
    | ret => exact key h2
    | _ => exact h2.elim
  exact wp_mono (h B cx _ w ⟨fun g hg => hg, rfl⟩ rfl hSR) fin
theorem retSR_normal {rs : List ResultVar} {R : V → Hp → Prop} : retSR P rs R .normal s σ = resVs P s σ rs (retVR fun v => R v σ) := rfl
theorem retSR_ret {rs : List ResultVar} {R : V → Hp → Prop} : retSR P rs R .ret s σ = resVs P s σ rs (retVR fun v => R v σ) := rfl
end
end Go.Abs
namespace Go.Abs
open Go
section
variable {P : Program} {T : Tab} {B : Base} {n : Nat} {cx cx' : Cx} {s : St} {σ σ' : Hp} {a : Act} {w w' : World} {K : St → Hp → Prop}
/-- Pure operations first. -/
def schedC (P : Program) (ops : Array Oper) : List (Nat × Nat) → Array Bool → Array Bool → Bool
  | [], L, L1 => L == L1
  | (i, 0) :: r, L, L1 => ((ops[i]?).map fun o => pureOp P o.op).getD false && (Region.ready .any ops L).contains i && Region.free .any ops L i && schedC P ops r (L.setIfInBounds i true) L1
  | _ :: _, _, _ => false
theorem semD_pre (hT : T.ok P) {ops : Array Oper} (hs : Region.noSelect ops = true) {Q : Act → World → Prop} {fuel : Nat} {L1 : Array Bool}
    (hend : ∀ s a, SR B n cx s σ a w → K s σ → wpAnyH P .any ops (onlyN Q) (stillW B) fuel L1 a w) :
    ∀ (pre : List (Nat × Nat)) (L : Array Bool) {s : St} {a : Act}, schedC P ops pre L L1 = true → SR B n cx s σ a w → semD P T n ops.toList (ops.toList.map (·.dst)) pre K s σ →
      wpAnyH P .any ops (onlyN Q) (stillW B) (pre.length + fuel) L a w
  | [], L, s, a, hB, h, hk => by
    have e : L = L1 := by simpa [schedC] using hB
    subst e
    simpa using hend s a h hk
  | (i, 0) :: r, L, s, a, hB, h, hk => by
    simp only [schedC, Bool.and_eq_true] at hB
    obtain ⟨⟨⟨hp, hr⟩, hf⟩, hB2⟩ := hB
    simp only [semD] at hk
    cases hi : ops.toList[i]? with
    | none => simp [hi] at hk
    | some o =>
      simp only [hi] at hk
      obtain ⟨hd, _, hk⟩ := hk
      have hi' : ops[i]? = some o := by simpa using hi
      have take : ∀ {v : V} {x : Value}, (Region.wanted o (yielded ops a.tmps) = true ∧ (∀ w', stillW B w' → (execOp a.eval o).run P w' = .ok (.value x) w') ∨ Region.wanted o (yielded ops a.tmps) = false ∧ x = undef) → TR w cx v x →
          semD P T n ops.toList (ops.toList.map (·.dst)) r K (s.putO o.dst v) σ → wpAnyH P .any ops (onlyN Q) (stillW B) (((i, 0) :: r).length + fuel) L a w := fun {v x} hy hv hkr => by
        have h' := h.putO (dOK_spec hd) hv
        have e : ((i, 0) :: r).length + fuel = (r.length + fuel) + 1 := by simp; omega
        rw [e]
        exact wpAnyH_take hi' hs hf hr (fun _ _ _ hq => hq.elim) (v := x) hy h.stillW (semD_pre hT hs hend r _ hB2 h' hkr)
      simp only [hi', Option.map_some, Option.getD_some] at hp
      rcases gate_wanted (ops := ops) h hk with ⟨hw, hk⟩ | ⟨hw, hk⟩
      · obtain ⟨v, hv, hy⟩ := sem_pure hT hp hk
        obtain ⟨x, hx, ht⟩ := hy h
        exact take (.inl ⟨hw, fun w' _ => hx w'⟩) ht hv
      · exact take (.inr ⟨hw, rfl⟩) (.v (.c undef)) hk
  | (i, k + 1) :: r, L, s, a, hB, h, hk => by simp [schedC] at hB
/-- One operation that comes up, the rest by its schedule. -/
theorem semD_step (hT : T.ok P) {ops : Array Oper} (hs : Region.noSelect ops = true) {Q : Act → World → Prop} (hsd : B.sd = T.sd) (hQ : ∀ a w, KC B n K a w → Q a w) {i : Nat} {r : List (Nat × Nat)} {L : Array Bool}
    (hB : schedB P ops r true (L.setIfInBounds i true) = true) (h : SR B n cx s σ a w) (hk : semD P T n ops.toList (ops.toList.map (·.dst)) ((i, 2) :: r) K s σ) :
    wpOp P ops (onlyN Q) i (fun a' w' => stillW B w' ∧ wpAnyH P .any ops (onlyN Q) (stillW B) r.length (L.setIfInBounds i true) a' w') a w := by
  simp only [semD] at hk
  cases hi : ops.toList[i]? with
  | none => simp [hi] at hk
  | some o =>
    simp only [hi] at hk
    obtain ⟨hd, _, hk⟩ := hk
    have hi' : ops[i]? = some o := by simpa using hi
    have next : ∀ a' w', KC B n (semD P T n ops.toList (ops.toList.map (·.dst)) r K) a' w' → stillW B w' ∧ wpAnyH P .any ops (onlyN Q) (stillW B) r.length (L.setIfInBounds i true) a' w' := fun a' w' ⟨cx', s', σ', h', hk'⟩ =>
      ⟨h'.stillW, wpAnyH_mono (S' := stillW (B.re cx' s'.l T.sd w')) (fun w'' hw g hg => (hw g (.inl hg)).trans (h'.stab g hg)) _ _ _ _
        (semD_sound hT hs r true _ rfl (fun a'' w'' ⟨cx2, s2, σ2, h2, hk2⟩ => hQ a'' w'' ⟨cx2, s2, σ2, h2.ofRe hsd (fun g hg => h'.stab g hg), hk2⟩) hB (h'.re hsd)
          (fun _ => ⟨fun g hg => .inr (.inl hg), fun d cells hd hl => .inr (.inr ⟨d, cells, hd, hl, rfl⟩)⟩) hk')⟩
    unfold wpOp
    simp only [hi']
    rcases gate_wanted (ops := ops) h hk with ⟨hw, hk⟩ | ⟨hw, hk⟩
    · simp only [hw, if_true]
      exact .inl (Oper.wp_mono next (sem_sound hT hsd hd h hk))
    · simp only [hw, Bool.false_eq_true, if_false]
      exact next _ _ ⟨cx, _, σ, h.putO (dOK_spec hd) (.v (.c undef)), hk⟩
/-- A region that draws its order: pure operations, then either of two, then the other one and the rest. -/
theorem AW.draw2 {Q : Exit → St → Hp → Prop} (hT : T.ok P) (hm : P.follows .mixedOrders = true) {id : Nat} {l : List Oper} (pre : List (Nat × Nat)) (i j : Nat) (r : List (Nat × Nat)) (L1 : Array Bool) (hlen : pre.length + (r.length + 2) = l.length) (hs : Region.noSelect l.toArray = true)
    (hC : schedC P l.toArray pre (Array.replicate l.length false) L1 = true) (hr : (Region.ready .any l.toArray L1 == [i, j]) = true)
    (hBi : schedB P l.toArray ((j, 2) :: r) true (L1.setIfInBounds i true) = true) (hBj : schedB P l.toArray ((i, 2) :: r) true (L1.setIfInBounds j true) = true)
    (h : semD P T n l (l.map (·.dst)) pre (fun s σ => semD P T n l (l.map (·.dst)) ((i, 2) :: (j, 2) :: r) (fun s σ => Q .normal s σ) s σ ∧ semD P T n l (l.map (·.dst)) ((j, 2) :: (i, 2) :: r) (fun s σ => Q .normal s σ) s σ) s σ) :
    AW P n (.region id l.toArray true) Q s σ :=
  fun B cx a w h1 _ h3 => by
    have h4 := h3.drew
    have h5 := h4.toAt T.sd
    refine wp_mono (Q := onlyN (fun a w => QC B n Q .normal a w)) (wp_region_held (S := stillW (B.at cx s.l T.sd w.drew)) hm ?_) (fun e a w hq => by cases e <;> first | exact hq | exact hq.elim)
    have hQ : ∀ a' w', KC (B.at cx s.l T.sd w.drew) n (fun s σ => Q .normal s σ) a' w' → QC B n Q .normal a' w' := fun a w ⟨cx', s', σ', h6, h7⟩ => ⟨cx', s', σ', h6.ofAt h1, h7⟩
    have := semD_pre hT hs (B := B.at cx s.l T.sd w.drew) (Q := fun a w => QC B n Q .normal a w) (fuel := r.length + 2) (L1 := L1)
      (K := fun s σ => semD P T n l (l.map (·.dst)) ((i, 2) :: (j, 2) :: r) (fun s σ => Q .normal s σ) s σ ∧ semD P T n l (l.map (·.dst)) ((j, 2) :: (i, 2) :: r) (fun s σ => Q .normal s σ) s σ) (fun s' a' h6 h7 => by
      refine wpAnyH_all (rs := [i, j]) (by simpa using hr) (by simp) (fun q hq => ?_)
      rcases List.mem_cons.1 hq with rfl | hq
      · exact semD_step hT hs rfl hQ hBi h6 (by simpa using h7.1)
      · have hq : q = j := by simpa using hq
        subst hq
        exact semD_step hT hs rfl hQ hBj h6 (by simpa using h7.2)) pre (Array.replicate l.length false) hC h5 (by simpa using h)
    rw [hlen] at this
    simpa using this
end
end Go.Abs
namespace Go.Abs
open Go
/-- What the abstract row of a value of a type is made of. -/
def Fit (P : Program) : Nat → TypeId → List V → Prop
  | 0, _, _ => False
  | n + 1, t, us => match P.underlying t with
    | some .bool => ∃ b, us = [.c (.bool b)]
    | some (.int k) => ∃ x, us = [.c (.int k x)] ∧ (Lit.int k x).wf = true
    | some .string => ∃ s : ByteArray, us = [.c (.string s)] ∧ s.size ≤ reachBytes
    | some (.slice e) => ∃ es : List (List V), us = [.sl es] ∧ es.length * P.bytesOf e ≤ reachBytes ∧ ∀ x ∈ es, x.length = P.cellsOf e ∧ Fit P n e x
    | some (.struct fs) => us.length = P.cellsOf t ∧ ∀ f ∈ fs.toList, Fit P n f.type ((us.drop f.offset).take (P.cellsOf f.type))
    | _ => False
/-- The fields stand one behind the other. -/
def contigB (P : Program) (n : Nat) : Nat → List Field → Bool
  | o, [] => o == n
  | o, f :: fs => f.offset == o && contigB P n (o + P.cellsOf f.type) fs
/-- Types of plain data. -/
def plainB (P : Program) (ts : List TypeId) : Bool := ts.all fun t => match P.underlying t with
  | some .bool | some (.int _) | some .string => true
  | some (.slice e) => ts.contains e && P.cellsOf e != 0
  | some (.struct fs) => (fs.toList.all fun f => ts.contains f.type) && contigB P (P.cellsOf t) 0 fs.toList
  | _ => false
/-- The heap as it was before the call: nobody writes it. -/
def cx0 (W : World) : Cx := { I := fun g => g < W.heap.size, M := fun _ => .slice none 0 0, Z := fun _ => 0, nm := 0, L := fun _ => 0 }
theorem HR0 (W : World) : HR (cx0 W) Hp.empty W where
  obj g cells h := by cases h
  gr k T es h := by cases h
  two k k' x x' g h := by cases h
  mix k x g cells h := by cases h
  apart g h := (own_empty h).elim
  ilt g h := h
section
variable {H : Type} {enc : TypeId × Value → H} {P : Program} {W : World} {held : Bool}
theorem lt_of_cell {w : World} {a : Addr} {v : Value} (h : w.cell? a = some v) : a.block < w.heap.size := by
  unfold World.cell? at h
  split at h
  · rename_i h1; exact lt_of_block h1
  · cases h
theorem weightsAll_mem {e : TypeId} : ∀ {ds : List (DataW H)} {d : DataW H}, d ∈ ds → ∀ n ∈ d.weights P e, n ∈ DataW.weightsAll P e ds
  | d0 :: ds, d, hd, n, hn => by
    simp only [DataW.weightsAll, List.mem_append]
    rcases List.mem_cons.1 hd with rfl | hd
    · exact .inl hn
    · exact .inr (weightsAll_mem hd n hn)
theorem contig_le {P : Program} {n : Nat} : ∀ {fs : List Field} {o : Nat}, contigB P n o fs = true → o ≤ n ∧ ∀ f ∈ fs, o ≤ f.offset
  | [], o, h => ⟨by simp [contigB] at h; omega, fun _ h => by cases h⟩
  | f :: fs, o, h => by
    simp only [contigB, Bool.and_eq_true, beq_iff_eq] at h
    obtain ⟨h1, h2⟩ := contig_le h.2
    refine ⟨by omega, fun g hg => ?_⟩
    rcases List.mem_cons.1 hg with rfl | hg
    · omega
    · have := h2 g hg; omega
theorem open_fields {P : Program} {cx : Cx} {Ft : TypeId → List V → Prop} {cs : List Value} {n : Nat} (hn : cs.length = n) : ∀ (fs : List Field) (o : Nat), contigB P n o fs = true →
    (∀ f ∈ fs, ∃ us, VRs W cx us ((cs.drop f.offset).take (P.cellsOf f.type)) ∧ Ft f.type us) →
    ∃ us, VRs W cx us (cs.drop o) ∧ us.length = n - o ∧ ∀ f ∈ fs, Ft f.type ((us.drop (f.offset - o)).take (P.cellsOf f.type))
  | [], o, h, _ => by
    simp [contigB] at h
    exact ⟨[], by rw [List.drop_of_length_le (by omega)]; exact .nil, by simp; omega, fun _ h => by cases h⟩
  | f :: fs, o, h, hf => by
    simp only [contigB, Bool.and_eq_true, beq_iff_eq] at h
    obtain ⟨h1, h2⟩ := h
    obtain ⟨hle, hof⟩ := contig_le h2
    obtain ⟨ur, hr1, hr2, hr3⟩ := open_fields hn fs (o + P.cellsOf f.type) h2 (fun g hg => hf g (List.mem_cons_of_mem _ hg))
    obtain ⟨uf, hf1, hf2⟩ := hf f List.mem_cons_self
    rw [h1] at hf1
    have hlf : uf.length = P.cellsOf f.type := by rw [hf1.1, List.length_take, List.length_drop]; omega
    refine ⟨uf ++ ur, ?_, by simp [hlf, hr2]; omega, fun g hg => ?_⟩
    · have := hf1.append hr1
      rw [← List.drop_drop, List.take_append_drop] at this
      exact this
    · rcases List.mem_cons.1 hg with rfl | hg
      · rw [h1, Nat.sub_self, List.drop_zero, ← hlf, List.take_left]; exact hf2
      · have h4 := hof g hg
        have h5 := hr3 g hg
        rw [List.drop_append, List.drop_of_length_le (by omega), List.nil_append, hlf, show g.offset - o - P.cellsOf f.type = g.offset - (o + P.cellsOf f.type) by omega]
        exact h5
theorem choose_below {α : Type} [Inhabited α] {n : Nat} {p : Nat → α → Prop} (h : ∀ i, i < n → ∃ x, p i x) : ∃ f : Nat → α, ∀ i, i < n → p i (f i) := by
  classical
  refine ⟨fun i => if hi : i < n then Classical.choose (h i hi) else default, fun i hi => ?_⟩
  simp only [dif_pos hi]
  exact Classical.choose_spec (h i hi)
theorem weightsEach_mem : ∀ {ts : List TypeId} {ds : List (DataW H)} {i : Nat} {t : TypeId} {d : DataW H}, ts[i]? = some t → ds[i]? = some d → ∀ n ∈ d.weights P t, n ∈ DataW.weightsEach P ts ds := DataW.weights_mem_each
theorem open_row (ts : List TypeId) (hts : plainB P ts = true) : ∀ (fuel : Nat) (t : TypeId) (cs : List Value) (d : DataW H) (ps : List MemPlace), t ∈ ts →
    DataW.trod enc P W 0 (fun _ => true) held fuel t cs = some (d, ps) → (∀ n ∈ d.weights P t, n ≤ reachBytes) → ∃ us, VRs W (cx0 W) us cs ∧ Fit P fuel t us := by
  intro fuel
  induction fuel with
  | zero => intro t cs d ps _ h; simp [DataW.trod] at h
  | succ fuel ih =>
    intro t cs d ps ht h hwt
    have hpl := List.all_eq_true.1 hts t ht
    split at hpl
    · rename_i hu
      unfold DataW.trod at h
      rw [hu] at h
      split at h <;> simp_all
      rename_i b
      exact ⟨[.c (.bool b)], VRs.cons rfl (.c _) .nil, by simp [Fit, hu]⟩
    · rename_i k hu
      unfold DataW.trod at h
      rw [hu] at h
      split at h <;> simp_all
      rename_i k' n hk
      subst hk
      exact ⟨[.c (.int _ n)], VRs.cons rfl (.c _) .nil, by simp [Fit, hu, h.1.2]⟩
    · rename_i hu
      unfold DataW.trod at h
      rw [hu] at h
      split at h <;> simp_all
      rename_i s
      refine ⟨[.c (.string s)], VRs.cons rfl (.c _) .nil, ?_⟩
      rw [← h.2.1] at hwt
      simp [Fit, hu]
      simpa [DataW.weights] using hwt
    · rename_i e hu
      simp only [Bool.and_eq_true, bne_iff_ne, ne_eq, List.contains_iff_mem] at hpl
      obtain ⟨het, hce⟩ := hpl
      rcases DataW.trod_slice hu h with ⟨rfl, _⟩ | ⟨a, len, cap, elems, rest, n, hn, rfl, hx, hb, hl, hm, hlen, hel, hsp, hns⟩
      · exact ⟨[.sl []], VRs.cons rfl .nils .nil, by simp [Fit, hu]⟩
      · obtain rfl : fuel = n := by omega
        simp only [Prod.mk.injEq] at hx
        obtain ⟨hd, -⟩ := hx
        subst hd
        have hw0 := hwt _ (by simp only [DataW.weights, hu]; exact List.mem_cons_self)
        have hwe : ∀ i (x : DataW H × List MemPlace), elems[i]? = some x → ∀ m ∈ x.1.weights P e, m ≤ reachBytes := fun i x hi m hmm =>
          hwt m (by simp only [DataW.weights, hu]; exact List.mem_cons_of_mem _ (List.mem_append_left _ (weightsAll_mem (List.mem_map.2 ⟨x, List.mem_of_getElem? hi, rfl⟩) m hmm)))
        have hex : ∀ i, i < len → ∃ us : List V, ∃ cs', W.cells? 0 (a.add (i * P.cellsOf e)) (P.cellsOf e) = some cs' ∧ VRs W (cx0 W) us cs' ∧ Fit P fuel e us := fun i hi => by
          have h1 := hel i hi
          rw [List.getElem?_eq_getElem (by omega)] at h1
          obtain ⟨cs', h2, h3⟩ := Option.bind_eq_some_iff.1 h1
          obtain ⟨us, h4, h5⟩ := ih e cs' _ _ het h3 (hwe i _ (List.getElem?_eq_getElem (by omega)))
          exact ⟨us, cs', h2, h4, h5⟩
        by_cases h0 : cap = 0
        · have hl0 : len = 0 := by omega
          subst h0; subst hl0
          exact ⟨[.sl []], VRs.cons rfl (.nile a) .nil, by simp [Fit, hu]⟩
        · obtain ⟨b, o, sp⟩ := a
          -- the address is a plain one, and its block is there
          have hfirst : ∃ v, W.cell? ⟨b, o, sp⟩ = some v := by
            by_cases hl0 : 0 < len
            · obtain ⟨us, cs', h2, h3, _⟩ := hex 0 hl0
              obtain ⟨_, hcl, hce'⟩ := World.cells?_some h2
              have := hce' 0 (by omega)
              rw [Nat.zero_mul] at this
              have e0 : ((⟨b, o, sp⟩ : Addr).add 0).add 0 = ⟨b, o, sp⟩ := rfl
              rw [e0] at this
              rw [this]
              exact ⟨cs'[0]'(by omega), List.getElem?_eq_getElem (by omega)⟩
            · have hl0 : len = 0 := by omega
              subst hl0
              obtain ⟨hr, hr2⟩ := hsp rfl
              have h1 := hr2 0 (by omega)
              rw [List.getElem?_eq_getElem (by omega)] at h1
              obtain ⟨cs', h2, h3⟩ := Option.bind_eq_some_iff.1 h1
              obtain ⟨_, hcl, hce'⟩ := World.cells?_some h2
              have := hce' 0 (by omega)
              have e0 : ((⟨b, o, sp⟩ : Addr).add ((0 + 0) * P.cellsOf e)).add 0 = ⟨b, o, sp⟩ := by simp [Addr.add]
              rw [e0] at this
              rw [this]
              exact ⟨cs'[0]'(by omega), List.getElem?_eq_getElem (by omega)⟩
          obtain ⟨v0, hv0⟩ := hfirst
          obtain rfl : sp = none := World.cell?_spot hv0
          have hbI : (cx0 W).I b := lt_of_cell hv0
          obtain ⟨F, hF⟩ := choose_below (p := fun i (us : List V) => ∃ cs', W.cells? 0 ((⟨b, o, none⟩ : Addr).add (i * P.cellsOf e)) (P.cellsOf e) = some cs' ∧ VRs W (cx0 W) us cs' ∧ Fit P fuel e us) hex
          obtain ⟨G, hG⟩ := choose_below (p := fun i (cs' : List Value) => W.cells? 0 ((⟨b, o, none⟩ : Addr).add (i * P.cellsOf e)) (P.cellsOf e) = some cs' ∧ VRs W (cx0 W) (F i) cs' ∧ Fit P fuel e (F i)) hF
          have hGl : ∀ i, i < len → (G i).length = P.cellsOf e := fun i hi => (World.cells?_some (hG i hi).1).2.1
          have hFl : ∀ i, i < len → (F i).length = P.cellsOf e := fun i hi => by rw [(hG i hi).2.1.1]; exact hGl i hi
          have hgi : ∀ (i : Nat) (x : List V), ((List.range len).map F)[i]? = some x → i < len ∧ x = F i := fun i x hx => by
            rw [List.getElem?_map] at hx
            by_cases hi : i < len
            · simp [hi] at hx; exact ⟨hi, hx.symm⟩
            · simp [hi] at hx
          refine ⟨[.sl ((List.range len).map F)], VRs.cons rfl ?_ .nil, ?_⟩
          · have := VR.sl (w := W) (cx := cx0 W) (es := (List.range len).map F) (sz := P.cellsOf e) (b := b) (o := o) (cap := cap) (fun i j => (G i).getD j undef) hbI (by simpa using hl)
              (fun i x hx => by obtain ⟨hi, rfl⟩ := hgi i x hx; exact hFl i hi)
              (fun i j hi hj => by
                have hi : i < len := by simpa using hi
                obtain ⟨_, _, hc⟩ := World.cells?_some (hG i hi).1
                have := hc j hj
                rw [Addr.add_lit, Addr.add_lit] at this
                rw [this, List.getElem?_eq_getElem (by rw [hGl i hi]; exact hj)]
                simp [List.getD, List.getElem?_eq_getElem (show j < (G i).length by rw [hGl i hi]; exact hj)])
              (fun i x j v hx hv => by
                obtain ⟨hi, rfl⟩ := hgi i x hx
                have hj : j < (G i).length := by
                  have := (List.getElem?_eq_some_iff.1 hv).1
                  rw [hFl i hi] at this; rw [hGl i hi]; exact this
                have := (hG i hi).2.1.2.2 j v ((G i)[j]) hv (List.getElem?_eq_getElem hj)
                simpa [List.getD, List.getElem?_eq_getElem hj] using this)
              (fun i j hi hj => by
                have hi : i < len := by simpa using hi
                have hj : j < (G i).length := by rw [hGl i hi]; exact hj
                have := (hG i hi).2.1.2.1 ((G i)[j]) (List.getElem_mem hj)
                simpa [List.getD, List.getElem?_eq_getElem hj] using this)
            simpa using this
          · simp only [Fit, hu]
            refine ⟨_, rfl, ?_, fun x hx => ?_⟩
            · rw [List.length_map, List.length_range]
              rw [List.length_map, hlen] at hw0
              exact Nat.le_trans (Nat.mul_le_mul_right _ (Nat.le_add_right _ _)) hw0
            · obtain ⟨i, hi, rfl⟩ := List.mem_map.1 hx
              have hi : i < len := by simpa using hi
              exact ⟨hFl i hi, (hG i hi).2.2⟩
    · rename_i fs hu
      rw [Bool.and_eq_true] at hpl
      obtain ⟨hpl, hco⟩ := hpl
      have hpl : ∀ f ∈ fs.toList, f.type ∈ ts := fun f hf => by
        have := List.all_eq_true.1 hpl f hf; simpa using this
      obtain ⟨xs, n, hn, hx, hcl, hxl, hfs⟩ := DataW.trod_struct hu h
      obtain rfl : fuel = n := by omega
      simp only [Prod.mk.injEq] at hx
      obtain ⟨hd, -⟩ := hx
      subst hd
      obtain ⟨us, h1, h2, h3⟩ := open_fields (W := W) (cx := cx0 W) (Ft := Fit P fuel) hcl fs.toList 0 hco (fun f hf => by
        obtain ⟨i, hi, hfi⟩ := List.getElem_of_mem hf
        have hi' : i < fs.size := by simpa using hi
        have hfi' : fs[i]? = some f := by rw [Array.getElem?_eq_getElem hi']; simpa using hfi
        have h4 := hfs i f hfi'
        rw [List.getElem?_eq_getElem (by omega)] at h4
        refine ih f.type _ _ _ (hpl f hf) h4 (fun m hm => hwt m ?_)
        simp only [DataW.weights, hu]
        refine weightsEach_mem (i := i) (t := f.type) (d := (xs[i]'(by omega)).1) ?_ ?_ m hm
        · rw [List.getElem?_map, List.getElem?_eq_getElem hi, hfi]; rfl
        · rw [List.getElem?_map, List.getElem?_eq_getElem (by omega)]; rfl)
      rw [List.drop_zero] at h1
      exact ⟨us, h1, by simp only [Fit, hu]; exact ⟨by simpa using h2, by simpa using h3⟩⟩
    · cases hpl
end
end Go.Abs
namespace Go.Abs
open Go
section
variable {P : Program} {n : Nat} {t e : TypeId} {us : List V}
theorem Fit.int {k : IntKind} (hu : P.underlying t = some (.int k)) (h : Fit P n t us) : ∃ x, us = [.c (.int k x)] ∧ (Lit.int k x).wf = true := by
  cases n with
  | zero => exact h.elim
  | succ n => simpa only [Fit, hu] using h
theorem Fit.bool (hu : P.underlying t = some .bool) (h : Fit P n t us) : ∃ b, us = [.c (.bool b)] := by
  cases n with
  | zero => exact h.elim
  | succ n => simpa only [Fit, hu] using h
theorem Fit.str (hu : P.underlying t = some .string) (h : Fit P n t us) : ∃ s : ByteArray, us = [.c (.string s)] ∧ s.size ≤ reachBytes := by
  cases n with
  | zero => exact h.elim
  | succ n => simpa only [Fit, hu] using h
theorem Fit.sl (hu : P.underlying t = some (.slice e)) (h : Fit P n t us) : ∃ es : List (List V), us = [.sl es] ∧ es.length * P.bytesOf e ≤ reachBytes ∧ ∃ m, m < n ∧ ∀ x ∈ es, x.length = P.cellsOf e ∧ Fit P m e x := by
  cases n with
  | zero => exact h.elim
  | succ n =>
    simp only [Fit, hu] at h
    obtain ⟨es, h1, h2, h3⟩ := h
    exact ⟨es, h1, h2, n, Nat.lt_succ_self n, h3⟩
theorem Fit.st {fs : Array Field} (hu : P.underlying t = some (.struct fs)) (h : Fit P n t us) : us.length = P.cellsOf t ∧ ∃ m, m < n ∧ ∀ (i : Nat) f, fs[i]? = some f → Fit P m f.type ((us.drop f.offset).take (P.cellsOf f.type)) := by
  cases n with
  | zero => exact h.elim
  | succ n =>
    simp only [Fit, hu] at h
    exact ⟨h.1, n, Nat.lt_succ_self n, fun i f hf => h.2 f (by rw [Array.mem_toList_iff]; exact Array.mem_of_getElem? hf)⟩
/-- A list of rows, each of which is the row of something. -/
theorem rows_of {α : Type} {f : α → List V} {p : α → Prop} : ∀ {es : List (List V)}, (∀ x ∈ es, ∃ a, x = f a ∧ p a) → ∃ l : List α, es = l.map f ∧ ∀ a ∈ l, p a
  | [], _ => ⟨[], rfl, fun _ h => by cases h⟩
  | x :: es, h => by
    obtain ⟨a, h1, h2⟩ := h x List.mem_cons_self
    obtain ⟨l, h3, h4⟩ := rows_of (es := es) fun y hy => h y (List.mem_cons_of_mem _ hy)
    exact ⟨a :: l, by rw [h1, h3]; rfl, fun b hb => by
      rcases List.mem_cons.1 hb with rfl | hb
      · exact h2
      · exact h4 b hb⟩
/-- From the reading of an argument: its abstract value. -/
theorem open_arg {H : Type} {enc : TypeId × Value → H} {W : World} {v : Value} {d : DataW H} {ps : List MemPlace} (ts : List TypeId) (hts : plainB P ts = true) (ht : t ∈ ts)
    (h : DataW.Trod enc P W 0 (fun _ => true) true t v d ps) (hw : ∀ n ∈ d.weights P t, n ≤ reachBytes) : ∃ n us, VRs W (cx0 W) us v.cells.toList ∧ Fit P n t us := by
  obtain ⟨fuel, hf⟩ := h
  obtain ⟨us, h1, h2⟩ := open_row ts hts fuel t _ d ps ht hf hw
  exact ⟨fuel, us, h1, h2⟩
/-- .. of a row. -/
theorem VR.of_row {w : World} {cx : Cx} {us : List V} {cs : Array Value} (h : VRs w cx us (Value.agg cs).cells.toList) : VR w cx (.agg us) (.agg cs) := by
  have : VRs w cx us cs.toList := h
  have := this.agg
  simpa using this
/-- A call that leaves the old heap alone, as the row wants it. -/
theorem PCalls.below {f : FuncId} {args : List V} {R : V → Prop} (h : PCalls P f args R) {W : World} {xs : List Value} (ha : VAs W (cx0 W) args xs) :
    Calls P f ⟨xs⟩ W (fun e w' => ∃ v r cx', e = .returned r ∧ VR w' cx' v r ∧ R v ∧ RowKit.Below W.heap.size W w') := by
  refine (h.2 (cx0 W) W xs (HR0 W) ha).mono fun e w' ⟨v, r, cx', σ', h1, h2, h3, h4, h5⟩ => ⟨v, r, cx', h1, h2, h5, ⟨h3.ext.os, h3.ext.tape, h3.ext.output, h3.ext.size, fun k hk => h3.ext.block k hk own_empty⟩⟩
end
end Go.Abs
namespace Go.Abs
open Go
set_option linter.defProp false
/-- The steps' words, under one name. -/
def ze := (And.intro (And.intro (And.intro (And.intro (And.intro @Go.Abs.ev.eq_1 (And.intro @Go.Abs.ev.eq_2 @Go.Abs.ev.eq_3)) (And.intro (And.intro @Go.Abs.ev.eq_4 @Go.Abs.ofC.eq_1) (And.intro @Go.Abs.ofC.eq_2 @Go.Abs.St.putO.eq_1))) (And.intro (And.intro (And.intro @Go.Abs.St.putO.eq_2 @Go.Abs.St.put_t) (And.intro @Go.Abs.St.put_l @Go.Abs.St.new_t)) (And.intro (And.intro @Go.Abs.St.new_l @Go.Abs.St.setl_t) (And.intro @Go.Abs.St.setl_l @Go.Abs.kill.eq_1)))) (And.intro (And.intro (And.intro @Go.Abs.kill.eq_2 (And.intro @Go.Abs.enterS_t @Go.Abs.enterS_l)) (And.intro (And.intro @List.getD_cons_zero.{0} @List.getD_cons_succ.{0}) (And.intro @Option.some.injEq.{0} @true_and))) (And.intro (And.intro (And.intro @and_true @Int.toNat_natCast) (And.intro @List.length_map.{0,0} @Array.length_toList.{0})) (And.intro (And.intro @List.length_cons.{0} @List.length_nil.{0}) (And.intro @Go.Abs.Hp.setObj_obj @Go.Abs.Hp.setObj_gr))))) (And.intro (And.intro (And.intro (And.intro @Go.Abs.Hp.setGr_gr (And.intro @Go.Abs.Hp.setGr_obj @Go.Abs.Hp.setObj_setObj)) (And.intro (And.intro @Go.Abs.Hp.setGr_setGr @Go.Abs.Hp.empty_setGr) (And.intro @Go.Abs.Hp.empty_setObj @Go.Abs.retSR_normal))) (And.intro (And.intro (And.intro @Go.Abs.retSR_ret @Go.Abs.retVR.eq_1) (And.intro @Go.Abs.retVR.eq_2 @Go.Abs.thenS_normal)) (And.intro (And.intro @Go.Abs.thenS_ret @Go.Abs.thenS_exit) (And.intro @Go.Abs.inBlockS_normal @Go.Abs.inBlockS_ret)))) (And.intro (And.intro (And.intro (And.intro @Go.Abs.inBlockS_exit @Go.Abs.retS_normal) (And.intro @Go.Abs.retS_ret @Go.Abs.resVs.eq_1)) (And.intro (And.intro @Go.Abs.resVs.eq_2 @Go.Abs.resV.eq_1) (And.intro @Go.Abs.resV.eq_2 @Go.Abs.retV.eq_1))) (And.intro (And.intro (And.intro @Go.Abs.retV.eq_2 @Go.Abs.okV.eq_1) (And.intro @Go.Abs.okV.eq_2 @Go.Abs.okV.eq_3)) (And.intro (And.intro @Go.Abs.wk.eq_1 @Go.Abs.wk.eq_2) (And.intro @Go.Abs.wk1.eq_1 @Go.Abs.wk1.eq_2))))))
/-- .. and more. -/
def zs := And.intro ze (And.intro (And.intro (And.intro (And.intro @ne_eq.{1} @imp_self) (And.intro @false_implies @Bool.not_true)) (And.intro (And.intro @Bool.not_false @Bool.false_eq_true) (And.intro @implies_true.{1} @not_true_eq_false))) (And.intro (And.intro (And.intro @not_false_eq_true @Nat.le_refl) (And.intro @Nat.zero_add @Nat.add_zero)) (And.intro (And.intro @Int.ofNat_lt @Int.ofNat_le) (And.intro @Int.natCast_nonneg (And.intro @decide_true @decide_false)))))
/-- .. and more. -/
def zn := And.intro zs (And.intro (And.intro (And.intro (And.intro (And.intro (And.intro (And.intro @Go.Abs.semOp.eq_1 @Go.Abs.semConv.eq_def) (And.intro @Go.Abs.qConv.eq_1 (And.intro @Go.Abs.qConv.eq_2 @Go.Abs.srcE.eq_1))) (And.intro (And.intro @Go.Abs.srcE.eq_2 (And.intro @Go.Abs.srcE.eq_3 @Go.Abs.srcE.eq_4)) (And.intro @Go.Abs.qExtract.eq_1 (And.intro @Go.Abs.qExtract.eq_2 @Go.Abs.qNil.eq_1)))) (And.intro (And.intro (And.intro @Go.Abs.qNil.eq_2 @Go.Abs.qNil.eq_3) (And.intro @Go.Abs.qNil.eq_4 (And.intro @Go.Abs.qNil.eq_5 @Go.Abs.qNil.eq_6))) (And.intro (And.intro @Go.Abs.str_nil (And.intro @Go.Abs.semBin.eq_1 @List.map_eq_nil_iff.{0,0})) (And.intro @Go.Abs.isNilC.eq_1 (And.intro @Go.Abs.isNilC.eq_2 @Go.Abs.nilCmp.eq_1))))) (And.intro (And.intro (And.intro (And.intro @Go.Abs.nilCmp.eq_2 @Go.Abs.nilCmp.eq_3) (And.intro @Go.Abs.qBin.eq_1 (And.intro @Go.Abs.qBin.eq_2 @Go.Abs.qBin.eq_3))) (And.intro (And.intro @Go.Abs.qBin.eq_4 (And.intro @Go.Abs.qBin.eq_5 @Go.Abs.qBin.eq_6)) (And.intro @Go.Abs.qBin.eq_7 (And.intro @Go.Abs.qBin.eq_8 @Go.Abs.qBin.eq_9)))) (And.intro (And.intro (And.intro @Go.Abs.qBin.eq_10 (And.intro @Go.Abs.qBin.eq_11 @Go.Abs.qBin.eq_12)) (And.intro @Go.Abs.qBin.eq_13 (And.intro @Go.Abs.qBin.eq_14 @Go.Abs.qBin.eq_15))) (And.intro (And.intro @Go.Abs.qBin.eq_16 (And.intro @Go.Abs.iBin.eq_1 @Go.Abs.iBin.eq_2)) (And.intro @Go.Abs.iBin.eq_3 (And.intro @Go.Abs.iBin.eq_4 @Go.Abs.iBin.eq_5)))))) (And.intro (And.intro (And.intro (And.intro (And.intro @Go.Abs.iBin.eq_6 @Go.Abs.iBin.eq_7) (And.intro @Go.Abs.iBin.eq_8 (And.intro @Go.Abs.iBin.eq_9 @Go.Abs.iBin.eq_10))) (And.intro (And.intro @Go.Abs.iBin.eq_11 (And.intro @Go.Abs.iBin.eq_12 @Go.Abs.iBin.eq_13)) (And.intro @Go.Abs.iBin.eq_14 (And.intro @Go.Abs.iBin.eq_15 @Go.Abs.iBin.eq_16)))) (And.intro (And.intro (And.intro @Go.Abs.iBin.eq_17 (And.intro @Go.Abs.sBin.eq_1 @Go.Abs.sBin.eq_2)) (And.intro @Go.Abs.sBin.eq_3 (And.intro @Go.Abs.sBin.eq_4 @Go.Abs.sBin.eq_5))) (And.intro (And.intro @Go.Abs.sBin.eq_6 (And.intro @Go.Abs.sBin.eq_7 @Go.Abs.sBin.eq_8)) (And.intro @Go.Abs.qUn.eq_1 (And.intro @Go.Abs.qUn.eq_2 @Go.Abs.qUn.eq_3))))) (And.intro (And.intro (And.intro (And.intro @Go.Abs.qUn.eq_4 @Go.Abs.qUn.eq_5) (And.intro @Go.Abs.qUn.eq_6 (And.intro @Go.Abs.qLoad.eq_1 @Go.Abs.qLoad.eq_2))) (And.intro (And.intro @Go.Abs.qLoad.eq_3 (And.intro @Go.Abs.qLoad.eq_4 @Go.Abs.qLoad.eq_5)) (And.intro @Go.Abs.cut.eq_1 (And.intro @List.drop_zero.{0} @List.take_succ_cons.{0})))) (And.intro (And.intro (And.intro @List.take_zero.{0} (And.intro @List.drop_succ_cons.{0} @Go.Abs.semStore.eq_1)) (And.intro @Go.Abs.cellsV.eq_1 (And.intro @Go.Abs.cellsV.eq_2 @Go.Abs.cellsV.eq_3))) (And.intro (And.intro @Go.Abs.cellsV.eq_4 (And.intro @Go.Abs.cellsV.eq_5 @Go.Abs.cellsV.eq_6)) (And.intro @Go.Abs.cellsV.eq_7 (And.intro @Go.Abs.flag.eq_1 @Go.Abs.flag.eq_2))))))) (And.intro (And.intro (And.intro (And.intro (And.intro (And.intro @Go.Abs.splice.eq_1 @List.nil_append.{0}) (And.intro @List.cons_append.{0} (And.intro @List.append_nil.{0} @List.drop_nil.{0}))) (And.intro (And.intro @Go.Abs.semAlloc.eq_1 (And.intro @Go.Abs.semAlloc.eq_2 @Go.Value.cells.eq_1)) (And.intro @Go.Value.cells.eq_2 (And.intro @Go.Abs.oneAll.eq_1 @List.all_cons.{0})))) (And.intro (And.intro (And.intro @List.all_nil.{0} (And.intro @Go.Value.oneCell'.eq_1 @Go.Value.oneCell'.eq_2)) (And.intro @Go.Value.oneCell'.eq_3 (And.intro @Bool.and_self @List.map.eq_1.{0,0}))) (And.intro (And.intro @List.map.eq_2.{0,0} (And.intro @Go.Abs.semBox.eq_def @Go.Abs.semCall.eq_1)) (And.intro @Go.Abs.qLen.eq_1 (And.intro @Go.Abs.qLen.eq_2 @Go.Abs.qLen.eq_3))))) (And.intro (And.intro (And.intro (And.intro @Go.Abs.qLen.eq_4 @Go.Abs.qLen.eq_5) (And.intro @Bool.and_true (And.intro @Go.Abs.semAppend.eq_1 @Go.Abs.dstE.eq_1))) (And.intro (And.intro @Go.Abs.dstE.eq_2 (And.intro @Go.Abs.dstE.eq_3 @Go.Abs.Hp.delO.eq_1)) (And.intro @Go.Abs.Hp.delO.eq_2 (And.intro @Go.Abs.semAppendN.eq_1 @Go.Abs.semAppendN.eq_2)))) (And.intro (And.intro (And.intro @List.size_toArray.{0} (And.intro @Go.Abs.qField.eq_1 @Go.Abs.shiftV.eq_1)) (And.intro @Go.Abs.shiftV.eq_2 (And.intro @Go.Abs.shiftV.eq_3 @Go.Abs.shiftV.eq_4))) (And.intro (And.intro @Go.Abs.shiftV.eq_5 (And.intro @Go.Abs.qFieldV.eq_1 @Go.Abs.qFieldV.eq_2)) (And.intro @Go.Abs.qIndexAddr.eq_1 (And.intro @Go.Abs.qIndexAddr.eq_2 @Go.Abs.qIndexAddr.eq_3)))))) (And.intro (And.intro (And.intro (And.intro (And.intro @Go.Abs.qIndexAddr.eq_4 @Go.Abs.qIndex.eq_1) (And.intro @Go.Abs.qIndex.eq_2 (And.intro @Go.Abs.qIndex.eq_3 @Go.Abs.semCut.eq_def))) (And.intro (And.intro @List.length_replicate.{0} (And.intro @Go.Abs.qSlice.eq_1 @Go.Abs.qSlice.eq_2)) (And.intro @Go.Abs.qSlice.eq_3 (And.intro @Go.Abs.qSlice.eq_4 @Go.Abs.loV.eq_1)))) (And.intro (And.intro (And.intro @Go.Abs.loV.eq_2 (And.intro @Go.Abs.loV.eq_3 @Go.Abs.hiV.eq_1)) (And.intro @Go.Abs.hiV.eq_2 (And.intro @Go.Abs.hiV.eq_3 @Option.map.eq_1.{0,0}))) (And.intro (And.intro @Option.map.eq_2.{0,0} (And.intro @Go.Abs.semMakeMap.eq_1 @Go.Abs.semMakeMap.eq_2)) (And.intro @Go.Abs.semLookup.eq_def (And.intro @Go.Abs.keyVal.eq_1 @Go.Abs.keyVal.eq_2))))) (And.intro (And.intro (And.intro (And.intro @Go.Abs.keyVal.eq_3 @Go.Abs.toCs.eq_1) (And.intro @Go.Abs.toCs.eq_2 (And.intro @Go.Abs.toC.eq_1 @Go.Abs.toC.eq_2))) (And.intro (And.intro @Option.map_some.{0,0} (And.intro @Go.Abs.semUpdate.eq_def @Go.Abs.qBuild.eq_1)) (And.intro @and_self (And.intro @Go.Abs.fillV.eq_1 @Go.Abs.fillV.eq_2)))) (And.intro (And.intro (And.intro @List.getElem?_toArray.{0} (And.intro @List.getElem?_cons_zero.{0} @List.getElem?_cons_succ.{0})) (And.intro @Go.Abs.semMake.eq_1 (And.intro @Go.Abs.semMake.eq_2 @Go.Abs.semBuildSlice.eq_1))) (And.intro (And.intro @Go.Abs.allCells.eq_1 (And.intro @Go.Abs.allCells.eq_2 @Nat.zero_mul)) (And.intro @Nat.zero_le (And.intro @beq_self_eq_true.{0} @Nat.one_mul))))))))
/-- .. and the words on 'there is'. -/
def zz := And.intro zn (And.intro @exists_and_left.{1} @exists_eq_left'.{1})
/-- .. and those for a slice that is written out. -/
def zb := And.intro zz (And.intro (And.intro @List.range_zero (And.intro @List.not_mem_nil.{0} @exists_eq'.{1})) (And.intro (And.intro @exists_eq.{1} @List.range_one) (And.intro @List.mem_singleton.{0} @forall_eq.{1})))
def okd (n : Nat) : Option Nat → Bool
  | some d => Nat.blt d n
  | none => true
theorem okd_ok {n : Nat} {d : Option Nat} (h : okd n d = true) : dOK n d := by
  cases d with
  | none => trivial
  | some d => exact Nat.le_of_ble_eq_true h
section
variable {P : Program} {T : Tab} {n : Nat} {s : St} {σ : Hp} {K : St → Hp → Prop} {ds : List (Option Nat)} {o : Oper} {r : List Oper}
theorem S.g (hd : okd n o.dst = true) (hg : o.guard = none)
    (h : ∀ K' : St → Hp → Prop, (∀ s σ, semL P T n ds r K s σ → K' s σ) → semOp P T o K' s σ) : semL P T n ds (o :: r) K s σ := S.go (okd_ok hd) hg h
theorem S.y {j d : Nat} {b : Bool} (hd : okd n o.dst = true) (hg : o.guard = some (j, b)) (hj : ds[j]? = some (some d)) (hb : s.t d = .c (.bool b))
    (h : ∀ K' : St → Hp → Prop, (∀ s σ, semL P T n ds r K s σ → K' s σ) → semOp P T o K' s σ) : semL P T n ds (o :: r) K s σ := S.yes (okd_ok hd) hg hj hb h
theorem S.x {j d : Nat} {b : Bool} (hd : okd n o.dst = true) (hg : o.guard = some (j, b)) (hj : ds[j]? = some (some d)) (hb : s.t d = .c (.bool (!b)))
    (h : ∀ K' : St → Hp → Prop, (∀ s σ, semL P T n ds r K s σ → K' s σ) → K' (s.putO o.dst (.c undef)) σ) : semL P T n ds (o :: r) K s σ := S.no (okd_ok hd) hg hj hb h
theorem S.u {j d : Nat} {b : Bool} (hd : okd n o.dst = true) (hg : o.guard = some (j, b)) (hj : ds[j]? = some (some d)) (hb : s.t d = .c undef)
    (h : ∀ K' : St → Hp → Prop, (∀ s σ, semL P T n ds r K s σ → K' s σ) → K' (s.putO o.dst (.c undef)) σ) : semL P T n ds (o :: r) K s σ := S.un (okd_ok hd) hg hj hb h
variable {ops : List Oper} {i k : Nat} {l : List (Nat × Nat)}
theorem D.g (ho : ops[i]? = some o) (hs : stC T s k o.op) (hd : okd n o.dst = true) (hg : o.guard = none)
    (h : ∀ K' : St → Hp → Prop, (∀ s σ, semD P T n ops ds l K s σ → K' s σ) → semOp P T o K' s σ) : semD P T n ops ds ((i, k) :: l) K s σ := D.go ho hs (okd_ok hd) hg h
theorem D.y {j d : Nat} {b : Bool} (ho : ops[i]? = some o) (hs : stC T s k o.op) (hd : okd n o.dst = true) (hg : o.guard = some (j, b)) (hj : ds[j]? = some (some d)) (hb : s.t d = .c (.bool b))
    (h : ∀ K' : St → Hp → Prop, (∀ s σ, semD P T n ops ds l K s σ → K' s σ) → semOp P T o K' s σ) : semD P T n ops ds ((i, k) :: l) K s σ := D.yes ho hs (okd_ok hd) hg hj hb h
theorem D.x {j d : Nat} {b : Bool} (ho : ops[i]? = some o) (hk : k = 1 → isLoad o.op = true) (hd : okd n o.dst = true) (hg : o.guard = some (j, b)) (hj : ds[j]? = some (some d)) (hb : s.t d = .c (.bool (!b)))
    (h : ∀ K' : St → Hp → Prop, (∀ s σ, semD P T n ops ds l K s σ → K' s σ) → K' (s.putO o.dst (.c undef)) σ) : semD P T n ops ds ((i, k) :: l) K s σ := D.no ho hk (okd_ok hd) hg hj hb h
theorem D.u {j d : Nat} {b : Bool} (ho : ops[i]? = some o) (hk : k = 1 → isLoad o.op = true) (hd : okd n o.dst = true) (hg : o.guard = some (j, b)) (hj : ds[j]? = some (some d)) (hb : s.t d = .c undef)
    (h : ∀ K' : St → Hp → Prop, (∀ s σ, semD P T n ops ds l K s σ → K' s σ) → K' (s.putO o.dst (.c undef)) σ) : semD P T n ops ds ((i, k) :: l) K s σ := D.un ho hk (okd_ok hd) hg hj hb h
end
end Go.Abs
namespace Go.Abs.M
open Go Go.Abs Go.Proofs
theorem ok2 : okT Tryz.prog 2 = true := by kernel_rfl
theorem sz2 : szT Tryz.prog 2 = 1 := by kernel_rfl
theorem ag2 : aggT Tryz.prog 2 = false := by kernel_rfl
theorem zt2 : zeroT Tryz.prog 2 = some (.int Go.IntKind.i64 (0)) := by kernel_rfl
theorem by2 : Program.bytesOf Tryz.prog 2 = 8 := by kernel_rfl
theorem ok3 : okT Tryz.prog 3 = true := by kernel_rfl
theorem sz3 : szT Tryz.prog 3 = 1 := by kernel_rfl
theorem ag3 : aggT Tryz.prog 3 = false := by kernel_rfl
theorem zt3 : zeroT Tryz.prog 3 = some (.int Go.IntKind.i64 (0)) := by kernel_rfl
theorem by3 : Program.bytesOf Tryz.prog 3 = 8 := by kernel_rfl
theorem ok4 : okT Tryz.prog 4 = true := by kernel_rfl
theorem sz4 : szT Tryz.prog 4 = 1 := by kernel_rfl
theorem ag4 : aggT Tryz.prog 4 = false := by kernel_rfl
theorem zt4 : zeroT Tryz.prog 4 = some (.bool false) := by kernel_rfl
theorem un4 : Program.underlying Tryz.prog 4 = some .bool := by kernel_rfl
theorem ok5 : okT Tryz.prog 5 = true := by kernel_rfl
theorem sz5 : szT Tryz.prog 5 = 1 := by kernel_rfl
theorem ag5 : aggT Tryz.prog 5 = false := by kernel_rfl
theorem ok9 : okT Tryz.prog 9 = true := by kernel_rfl
theorem sz9 : szT Tryz.prog 9 = 1 := by kernel_rfl
theorem ag9 : aggT Tryz.prog 9 = false := by kernel_rfl
theorem st9 : strT Tryz.prog 9 = true := by kernel_rfl
theorem ok22 : okT Tryz.prog 22 = true := by kernel_rfl
theorem sz22 : szT Tryz.prog 22 = 1 := by kernel_rfl
theorem ag22 : aggT Tryz.prog 22 = false := by kernel_rfl
theorem zt22 : zeroT Tryz.prog 22 = some (.slice none 0 0) := by kernel_rfl
theorem by22 : Program.bytesOf Tryz.prog 22 = 24 := by kernel_rfl
theorem sl22 : slT Tryz.prog 22 = true := by kernel_rfl
theorem el22 : Program.elem Tryz.prog 22 = 38 := by kernel_rfl
theorem ok24 : okT Tryz.prog 24 = true := by kernel_rfl
theorem sz24 : szT Tryz.prog 24 = 1 := by kernel_rfl
theorem ag24 : aggT Tryz.prog 24 = true := by kernel_rfl
theorem zt24 : zeroT Tryz.prog 24 = some (.agg #[.slice none 0 0]) := by kernel_rfl
theorem by24 : Program.bytesOf Tryz.prog 24 = 24 := by kernel_rfl
theorem of24_0 : offT Tryz.prog 24 0 = some 0 := by kernel_rfl
theorem pl24 : placeT Tryz.prog 24 = some (fun i => (#[(0, 1)] : Array (Nat × Nat))[i]?) := by kernel_rfl
theorem ok28 : okT Tryz.prog 28 = true := by kernel_rfl
theorem sz28 : szT Tryz.prog 28 = 1 := by kernel_rfl
theorem ag28 : aggT Tryz.prog 28 = false := by kernel_rfl
theorem zt28 : zeroT Tryz.prog 28 = some (.pointer none) := by kernel_rfl
theorem by28 : Program.bytesOf Tryz.prog 28 = 8 := by kernel_rfl
theorem un28 : Program.underlying Tryz.prog 28 = some (.pointer 53) := by kernel_rfl
theorem ok31 : okT Tryz.prog 31 = true := by kernel_rfl
theorem sz31 : szT Tryz.prog 31 = 1 := by kernel_rfl
theorem ag31 : aggT Tryz.prog 31 = false := by kernel_rfl
theorem zt31 : zeroT Tryz.prog 31 = some (.slice none 0 0) := by kernel_rfl
theorem sl31 : slT Tryz.prog 31 = true := by kernel_rfl
theorem el31 : Program.elem Tryz.prog 31 = 24 := by kernel_rfl
theorem ok33 : okT Tryz.prog 33 = true := by kernel_rfl
theorem sz33 : szT Tryz.prog 33 = 2 := by kernel_rfl
theorem ag33 : aggT Tryz.prog 33 = true := by kernel_rfl
theorem zt33 : zeroT Tryz.prog 33 = some (.agg #[.int Go.IntKind.i64 (0), .int Go.IntKind.i64 (0)]) := by kernel_rfl
theorem of33_0 : offT Tryz.prog 33 0 = some 0 := by kernel_rfl
theorem of33_1 : offT Tryz.prog 33 1 = some 1 := by kernel_rfl
theorem pl33 : placeT Tryz.prog 33 = some (fun i => (#[(0, 1), (1, 1)] : Array (Nat × Nat))[i]?) := by kernel_rfl
theorem ok34 : okT Tryz.prog 34 = true := by kernel_rfl
theorem sz34 : szT Tryz.prog 34 = 1 := by kernel_rfl
theorem ag34 : aggT Tryz.prog 34 = false := by kernel_rfl
theorem sl34 : slT Tryz.prog 34 = true := by kernel_rfl
theorem el34 : Program.elem Tryz.prog 34 = 42 := by kernel_rfl
theorem ok36 : okT Tryz.prog 36 = true := by kernel_rfl
theorem sz36 : szT Tryz.prog 36 = 5 := by kernel_rfl
theorem ag36 : aggT Tryz.prog 36 = true := by kernel_rfl
theorem zt36 : zeroT Tryz.prog 36 = some (.agg #[.int Go.IntKind.i64 (0), .int Go.IntKind.i64 (0), .int Go.IntKind.i64 (0), .string ⟨#[]⟩, .slice none 0 0]) := by kernel_rfl
theorem of36_0 : offT Tryz.prog 36 0 = some 0 := by kernel_rfl
theorem of36_1 : offT Tryz.prog 36 1 = some 2 := by kernel_rfl
theorem of36_2 : offT Tryz.prog 36 2 = some 3 := by kernel_rfl
theorem of36_3 : offT Tryz.prog 36 3 = some 4 := by kernel_rfl
theorem pl36 : placeT Tryz.prog 36 = some (fun i => (#[(0, 2), (2, 1), (3, 1), (4, 1)] : Array (Nat × Nat))[i]?) := by kernel_rfl
theorem ok38 : okT Tryz.prog 38 = true := by kernel_rfl
theorem sz38 : szT Tryz.prog 38 = 6 := by kernel_rfl
theorem ag38 : aggT Tryz.prog 38 = true := by kernel_rfl
theorem zt38 : zeroT Tryz.prog 38 = some (.agg #[.string ⟨#[]⟩, .int Go.IntKind.i64 (0), .int Go.IntKind.i64 (0), .int Go.IntKind.i64 (0), .string ⟨#[]⟩, .slice none 0 0]) := by kernel_rfl
theorem by38 : Program.bytesOf Tryz.prog 38 = 80 := by kernel_rfl
theorem of38_0 : offT Tryz.prog 38 0 = some 0 := by kernel_rfl
theorem of38_1 : offT Tryz.prog 38 1 = some 1 := by kernel_rfl
theorem pl38 : placeT Tryz.prog 38 = some (fun i => (#[(0, 1), (1, 5)] : Array (Nat × Nat))[i]?) := by kernel_rfl
theorem ok40 : okT Tryz.prog 40 = true := by kernel_rfl
theorem sz40 : szT Tryz.prog 40 = 3 := by kernel_rfl
theorem ag40 : aggT Tryz.prog 40 = true := by kernel_rfl
theorem of40_0 : offT Tryz.prog 40 0 = some 0 := by kernel_rfl
theorem of40_1 : offT Tryz.prog 40 1 = some 1 := by kernel_rfl
theorem of40_2 : offT Tryz.prog 40 2 = some 2 := by kernel_rfl
theorem ok42 : okT Tryz.prog 42 = true := by kernel_rfl
theorem sz42 : szT Tryz.prog 42 = 4 := by kernel_rfl
theorem ag42 : aggT Tryz.prog 42 = true := by kernel_rfl
theorem zt42 : zeroT Tryz.prog 42 = some (.agg #[.string ⟨#[]⟩, .int Go.IntKind.i64 (0), .int Go.IntKind.i64 (0), .string ⟨#[]⟩]) := by kernel_rfl
theorem by42 : Program.bytesOf Tryz.prog 42 = 48 := by kernel_rfl
theorem of42_0 : offT Tryz.prog 42 0 = some 0 := by kernel_rfl
theorem of42_1 : offT Tryz.prog 42 1 = some 1 := by kernel_rfl
theorem ok49 : okT Tryz.prog 49 = true := by kernel_rfl
theorem sz49 : szT Tryz.prog 49 = 1 := by kernel_rfl
theorem ag49 : aggT Tryz.prog 49 = true := by kernel_rfl
theorem zt49 : zeroT Tryz.prog 49 = some (.agg #[.slice none 0 0]) := by kernel_rfl
theorem of49_0 : offT Tryz.prog 49 0 = some 0 := by kernel_rfl
theorem pl49 : placeT Tryz.prog 49 = some (fun i => (#[(0, 1)] : Array (Nat × Nat))[i]?) := by kernel_rfl
theorem ok53 : okT Tryz.prog 53 = true := by kernel_rfl
theorem sz53 : szT Tryz.prog 53 = 2 := by kernel_rfl
theorem ag53 : aggT Tryz.prog 53 = true := by kernel_rfl
theorem zt53 : zeroT Tryz.prog 53 = some (.agg #[.slice none 0 0, .bool false]) := by kernel_rfl
theorem of53_0 : offT Tryz.prog 53 0 = some 0 := by kernel_rfl
theorem of53_1 : offT Tryz.prog 53 1 = some 1 := by kernel_rfl
theorem pl53 : placeT Tryz.prog 53 = some (fun i => (#[(0, 1), (1, 1)] : Array (Nat × Nat))[i]?) := by kernel_rfl
theorem sl54 : slT Tryz.prog 54 = true := by kernel_rfl
theorem el54 : Program.elem Tryz.prog 54 = 28 := by kernel_rfl
theorem un76 : Program.underlying Tryz.prog 76 = some (.pointer 82) := by kernel_rfl
theorem sl80 : slT Tryz.prog 80 = true := by kernel_rfl
theorem el80 : Program.elem Tryz.prog 80 = 5 := by kernel_rfl
theorem of82_0 : offT Tryz.prog 82 0 = some 0 := by kernel_rfl
theorem un83 : Program.underlying Tryz.prog 83 = some (.pointer 113) := by kernel_rfl
theorem sl90 : slT Tryz.prog 90 = true := by kernel_rfl
theorem el90 : Program.elem Tryz.prog 90 = 22 := by kernel_rfl
theorem sl94 : slT Tryz.prog 94 = true := by kernel_rfl
theorem el94 : Program.elem Tryz.prog 94 = 2 := by kernel_rfl
theorem sl109 : slT Tryz.prog 109 = true := by kernel_rfl
theorem el109 : Program.elem Tryz.prog 109 = 4 := by kernel_rfl
theorem of113_0 : offT Tryz.prog 113 0 = some 0 := by kernel_rfl
theorem sl121 : slT Tryz.prog 121 = true := by kernel_rfl
theorem el121 : Program.elem Tryz.prog 121 = 3 := by kernel_rfl
theorem cv3_98 : cnvT Tryz.prog 3 98 = .toInt .u64 := by kernel_rfl
theorem cv98_3 : cnvT Tryz.prog 98 3 = .toInt .i64 := by kernel_rfl
theorem cv9_80 : cnvT Tryz.prog 9 80 = .toBytes 5 := by kernel_rfl
end Go.Abs.M
namespace Go.Abs.M
open Go Go.Abs Go.Proofs
set_option maxRecDepth 20000
set_option linter.unusedSimpArgs false
def letter (c : UInt8) : Bool := decide (c.toNat = 95 ∨ (97 ≤ c.toNat ∧ c.toNat ≤ 122) ∨ (65 ≤ c.toNat ∧ c.toNat ≤ 90))
def nameC (i : Nat) (c : UInt8) : Bool := letter c || decide (i ≠ 0 ∧ 48 ≤ c.toNat ∧ c.toNat ≤ 57)
theorem getD_map {α : Type} {f : α → List V} {l : List α} {i : Nat} (h : i < l.length) : (l.map f).getD i [] = f l[i] := by simp [List.getD, h]
def nameL : Nat → List UInt8 → Bool
  | _, [] => true
  | i, c :: l => nameC i c && nameL (i + 1) l
def isName (s : ByteArray) : Bool := nameL 0 s.data.toList && s.size != 0 && s.size ≤ 32
theorem name_spec (str : ByteArray) (hn : str.size < 4611686018427387904) : PCalls Tryz.prog 43 [.c (.string str)] (fun v => v = .c (.bool (isName str))) := by
  refine PCalls.intro Tryz.call43 Tryz.func43 rfl Tryz.ntmps43 Tryz.results43 (by simp) ?_
  refine AW.seq_k fun K1 h1 => ?_
  all_goals refine AW.reg0 ?_
  all_goals (refine S.g rfl rfl fun Y Z => ?_; simp only [zz, reduceIte, Nat.reduceEqDiff, Nat.reduceAdd]; refine Z _ _ ?_; clear Z Y)
  all_goals refine S.nil ?_
  all_goals simp only [ze, reduceIte, Nat.reduceEqDiff, Nat.reduceLeDiff, Nat.reduceAdd]
  all_goals apply_assumption
  refine AW.seq_k fun K2 h2 => ?_
  refine AW.seq_k fun K3 h3 => ?_
  all_goals refine AW.reg0 ?_
  all_goals iterate 4 (refine S.g rfl rfl fun Y Z => ?_; simp only [zz, reduceIte, Nat.reduceEqDiff, Nat.reduceLeDiff, Nat.reduceAdd, cv9_80, sl80, el80, ok5, sz5, ag5]; refine Z _ _ ?_; clear Z Y)
  all_goals refine S.nil ?_
  all_goals simp only [ze, reduceIte, Nat.reduceEqDiff, Nat.reduceLeDiff, Nat.reduceAdd]
  all_goals apply_assumption
  refine AW.block (AW.loop (fun m s σ => σ = Hp.empty ∧ ∃ i : Nat, m + i = str.size ∧ s.t 0 = .c (.string str) ∧ s.t 7 = .sl (str.data.toList.map encU8) ∧ s.t 8 = .c (.int .i64 str.size) ∧ s.t 9 = .c (.int .i64 i) ∧ nameL 0 str.data.toList = nameL i (str.data.toList.drop i)) str.size ?_ ?_)
  · refine ⟨rfl, 0, by simp, ?_⟩
    all_goals simp only [zs, reduceIte, Nat.reduceEqDiff, Nat.reduceLeDiff, Nat.reduceAdd]
    exact ⟨by simp, by simp⟩
  rintro m s σ ⟨rfl, i, hm, e0, e7, e8, e9, hp⟩
  refine AW.seq_k fun K4 h4 => ?_
  all_goals refine AW.reg0 ?_
  all_goals (refine S.g rfl rfl fun Y Z => ?_; simp only [zz, reduceIte, Nat.reduceEqDiff, Nat.reduceAdd, e8, e9]; refine Z _ _ ?_; clear Z Y)
  all_goals refine S.nil ?_
  all_goals simp only [ze, reduceIte, Nat.reduceEqDiff, Nat.reduceLeDiff, Nat.reduceAdd, e8, e9]
  all_goals apply_assumption
  refine AW.seq_k fun K5 h5 => ?_
  refine AW.cond (b := decide (i < str.size)) (by simp [ev]) (fun hc => AW.skip ?_) (fun hc => AW.exit ?_)
  · all_goals simp only [zs, reduceIte, Nat.reduceEqDiff, Nat.reduceLeDiff, Nat.reduceAdd]
    all_goals apply_assumption
    have hi : i < str.size := by simpa using hc
    have hil : i < str.data.toList.length := by rw [Array.length_toList]; exact hi
    have hi2 : i < str.data.size := hi
    have hg := getD_map (f := encU8) hil
    generalize hcc : str.data.toList[i] = c at hg
    refine AW.seq_k fun K6 h6 => ?_
    refine AW.block ?_
    refine AW.seq_k fun K7 h7 => ?_
    all_goals refine AW.reg0 ?_
    all_goals iterate 5 (refine S.g rfl rfl fun Y Z => ?_; simp only [zz, reduceIte, Nat.reduceEqDiff, Nat.reduceLeDiff, Nat.reduceAdd, sl80, el80, ok5, sz5, ag5, e9, e7, hil, hi2, hg, encU8, List.length_singleton]; refine Z _ _ ?_; clear Z Y)
    all_goals refine S.nil ?_
    all_goals simp only [ze, reduceIte, Nat.reduceEqDiff, Nat.reduceLeDiff, Nat.reduceAdd, e9, e7, hil, hi2, hg, encU8, List.length_singleton]
    all_goals apply_assumption
    refine AW.seq_j (fun s' σ' => σ' = Hp.empty ∧ s'.t 0 = s.t 0 ∧ s'.t 7 = s.t 7 ∧ s'.t 8 = s.t 8 ∧ s'.t 9 = s.t 9 ∧ s'.t 3 = .c (.int .i64 i) ∧ s'.t 4 = .c (.int .u8 c.toNat) ∧ s'.t 5 = .c (.bool (letter c))) ?_ ?_
    · clear hp
      all_goals refine AW.reg0 ?_
      all_goals (refine S.g rfl rfl fun Y Z => ?_; simp only [zz, reduceIte, Nat.reduceEqDiff, Nat.reduceAdd]; refine Z _ _ ?_; clear Z Y)
      all_goals (refine S.g rfl rfl fun Y Z => ?_; simp only [zz, reduceIte, Nat.reduceEqDiff, Nat.reduceLeDiff, Nat.reduceAdd]; refine S.bool fun b a15 => ?_; cases b <;> (try (exfalso; first | exact Bool.noConfusion a15 | (have h := of_decide_eq_true a15; omega) | (have h := of_decide_eq_false a15; omega))) <;> (refine Z _ _ ?_; clear Z Y))
      all_goals (refine S.g rfl rfl fun Y Z => ?_; simp only [zz, reduceIte, Nat.reduceEqDiff, Nat.reduceAdd]; refine Z _ _ ?_; clear Z Y)
      all_goals (first | (refine S.y rfl rfl rfl rfl fun Y Z => ?_; simp only [zz, reduceIte, Nat.reduceEqDiff, Nat.reduceAdd]; refine Z _ _ ?_; clear Z Y) | ((first | refine S.x rfl rfl rfl rfl fun Y Z => ?_ | refine S.u rfl rfl rfl rfl fun Y Z => ?_); simp only [ze, reduceIte, Nat.reduceEqDiff]; refine Z _ _ ?_; clear Z Y))
      all_goals (first | (refine S.y rfl rfl rfl rfl fun Y Z => ?_; simp only [zz, reduceIte, Nat.reduceEqDiff, Nat.reduceLeDiff, Nat.reduceAdd]; refine S.bool fun b a18 => ?_; cases b <;> (try (exfalso; first | exact Bool.noConfusion a18 | (have h := of_decide_eq_true a18; omega) | (have h := of_decide_eq_false a18; omega))) <;> (refine Z _ _ ?_; clear Z Y)) | ((first | refine S.x rfl rfl rfl rfl fun Y Z => ?_ | refine S.u rfl rfl rfl rfl fun Y Z => ?_); simp only [ze, reduceIte, Nat.reduceEqDiff]; refine Z _ _ ?_; clear Z Y))
      all_goals iterate 2 (first | (refine S.y rfl rfl rfl rfl fun Y Z => ?_; simp only [zz, reduceIte, Nat.reduceEqDiff, Nat.reduceAdd]; refine Z _ _ ?_; clear Z Y) | ((first | refine S.x rfl rfl rfl rfl fun Y Z => ?_ | refine S.u rfl rfl rfl rfl fun Y Z => ?_); simp only [ze, reduceIte, Nat.reduceEqDiff]; refine Z _ _ ?_; clear Z Y))
      all_goals (first | (refine S.y rfl rfl rfl rfl fun Y Z => ?_; simp only [zz, reduceIte, Nat.reduceEqDiff, Nat.reduceLeDiff, Nat.reduceAdd]; refine S.bool fun b a21 => ?_; cases b <;> (try (exfalso; first | exact Bool.noConfusion a21 | (have h := of_decide_eq_true a21; omega) | (have h := of_decide_eq_false a21; omega))) <;> (refine Z _ _ ?_; clear Z Y)) | ((first | refine S.x rfl rfl rfl rfl fun Y Z => ?_ | refine S.u rfl rfl rfl rfl fun Y Z => ?_); simp only [ze, reduceIte, Nat.reduceEqDiff]; refine Z _ _ ?_; clear Z Y))
      all_goals (first | (refine S.y rfl rfl rfl rfl fun Y Z => ?_; simp only [zz, reduceIte, Nat.reduceEqDiff, Nat.reduceAdd]; refine Z _ _ ?_; clear Z Y) | ((first | refine S.x rfl rfl rfl rfl fun Y Z => ?_ | refine S.u rfl rfl rfl rfl fun Y Z => ?_); simp only [ze, reduceIte, Nat.reduceEqDiff]; refine Z _ _ ?_; clear Z Y))
      all_goals iterate 2 (refine S.g rfl rfl fun Y Z => ?_; simp only [zz, reduceIte, Nat.reduceEqDiff, Nat.reduceAdd]; refine Z _ _ ?_; clear Z Y)
      all_goals (first | (refine S.y rfl rfl rfl rfl fun Y Z => ?_; simp only [zz, reduceIte, Nat.reduceEqDiff, Nat.reduceAdd]; refine Z _ _ ?_; clear Z Y) | ((first | refine S.x rfl rfl rfl rfl fun Y Z => ?_ | refine S.u rfl rfl rfl rfl fun Y Z => ?_); simp only [ze, reduceIte, Nat.reduceEqDiff]; refine Z _ _ ?_; clear Z Y))
      all_goals (first | (refine S.y rfl rfl rfl rfl fun Y Z => ?_; simp only [zz, reduceIte, Nat.reduceEqDiff, Nat.reduceLeDiff, Nat.reduceAdd]; refine S.bool fun b a26 => ?_; cases b <;> (try (exfalso; first | exact Bool.noConfusion a26 | (have h := of_decide_eq_true a26; omega) | (have h := of_decide_eq_false a26; omega))) <;> (refine Z _ _ ?_; clear Z Y)) | ((first | refine S.x rfl rfl rfl rfl fun Y Z => ?_ | refine S.u rfl rfl rfl rfl fun Y Z => ?_); simp only [ze, reduceIte, Nat.reduceEqDiff]; refine Z _ _ ?_; clear Z Y))
      all_goals iterate 4 (first | (refine S.y rfl rfl rfl rfl fun Y Z => ?_; simp only [zz, reduceIte, Nat.reduceEqDiff, Nat.reduceAdd]; refine Z _ _ ?_; clear Z Y) | ((first | refine S.x rfl rfl rfl rfl fun Y Z => ?_ | refine S.u rfl rfl rfl rfl fun Y Z => ?_); simp only [ze, reduceIte, Nat.reduceEqDiff]; refine Z _ _ ?_; clear Z Y))
      all_goals iterate 2 (refine S.g rfl rfl fun Y Z => ?_; simp only [zz, reduceIte, Nat.reduceEqDiff, Nat.reduceAdd]; refine Z _ _ ?_; clear Z Y)
      all_goals refine S.nil ?_
      all_goals simp only [ze, reduceIte, Nat.reduceEqDiff, Nat.reduceLeDiff, Nat.reduceAdd]
      all_goals (try simp only [beq_eq_false_iff_ne, decide_eq_true_eq, decide_eq_false_iff_not, beq_iff_eq, ne_eq, Bool.not_eq_true', Bool.not_eq_false', bne_iff_ne, bne_eq_false_iff_eq] at *)
      all_goals (try simp only [V.c.injEq, Value.bool.injEq, Value.int.injEq, true_and, letter])
      all_goals first | done | rfl | omega | ((rw [Bool.eq_iff_iff]; simp only [beq_eq_false_iff_ne, decide_eq_true_eq, decide_eq_false_iff_not, beq_iff_eq, ne_eq, Bool.not_eq_true', Bool.not_eq_false', bne_iff_ne, bne_eq_false_iff_eq, Bool.false_or, Bool.true_or, Bool.or_false, Bool.or_true, Bool.false_and, Bool.and_false, Bool.true_and, Bool.and_true, Bool.not_true, Bool.not_false, Bool.or_eq_false_iff, Bool.and_eq_false_iff, Bool.or_eq_true, Bool.and_eq_true, Bool.false_eq_true, Bool.true_eq_false, true_iff, iff_true, false_iff, iff_false]) <;> omega)
    rintro s1 σ1 ⟨rfl, f0, f7, f8, f9, f3, f4, f5⟩
    rw [e0] at f0; rw [e7] at f7; rw [e8] at f8; rw [e9] at f9
    refine AW.seq_j (fun s' σ' => σ' = Hp.empty ∧ s'.t 0 = s1.t 0 ∧ s'.t 7 = s1.t 7 ∧ s'.t 8 = s1.t 8 ∧ s'.t 9 = s1.t 9 ∧ s'.t 45 = .c (.bool (!nameC i c))) ?_ ?_
    · clear hp
      generalize hlc : letter c = lc at *
      cases lc
      all_goals refine AW.reg0 ?_
      all_goals iterate 3 (refine S.g rfl rfl fun Y Z => ?_; simp only [zz, reduceIte, Nat.reduceEqDiff, Nat.reduceAdd, f3, f4, f5]; refine Z _ _ ?_; clear Z Y)
      all_goals (first | (refine S.y rfl rfl rfl rfl fun Y Z => ?_; simp only [zz, reduceIte, Nat.reduceEqDiff, Nat.reduceAdd, f3, f4, f5]; refine Z _ _ ?_; clear Z Y) | ((first | refine S.x rfl rfl rfl rfl fun Y Z => ?_ | refine S.u rfl rfl rfl rfl fun Y Z => ?_); simp only [ze, reduceIte, Nat.reduceEqDiff]; refine Z _ _ ?_; clear Z Y))
      all_goals (first | (refine S.y rfl rfl rfl rfl fun Y Z => ?_; simp only [zz, reduceIte, Nat.reduceEqDiff, Nat.reduceLeDiff, Nat.reduceAdd, f3, f4, f5]; refine S.bool fun b a36 => ?_; cases b <;> (try (exfalso; first | exact Bool.noConfusion a36 | (have h := of_decide_eq_true a36; omega) | (have h := of_decide_eq_false a36; omega))) <;> (refine Z _ _ ?_; clear Z Y)) | ((first | refine S.x rfl rfl rfl rfl fun Y Z => ?_ | refine S.u rfl rfl rfl rfl fun Y Z => ?_); simp only [ze, reduceIte, Nat.reduceEqDiff]; refine Z _ _ ?_; clear Z Y))
      all_goals iterate 2 (first | (refine S.y rfl rfl rfl rfl fun Y Z => ?_; simp only [zz, reduceIte, Nat.reduceEqDiff, Nat.reduceAdd, f3, f4, f5]; refine Z _ _ ?_; clear Z Y) | ((first | refine S.x rfl rfl rfl rfl fun Y Z => ?_ | refine S.u rfl rfl rfl rfl fun Y Z => ?_); simp only [ze, reduceIte, Nat.reduceEqDiff]; refine Z _ _ ?_; clear Z Y))
      all_goals (first | (refine S.y rfl rfl rfl rfl fun Y Z => ?_; simp only [zz, reduceIte, Nat.reduceEqDiff, Nat.reduceLeDiff, Nat.reduceAdd, f3, f4, f5]; refine S.bool fun b a39 => ?_; cases b <;> (try (exfalso; first | exact Bool.noConfusion a39 | (have h := of_decide_eq_true a39; omega) | (have h := of_decide_eq_false a39; omega))) <;> (refine Z _ _ ?_; clear Z Y)) | ((first | refine S.x rfl rfl rfl rfl fun Y Z => ?_ | refine S.u rfl rfl rfl rfl fun Y Z => ?_); simp only [ze, reduceIte, Nat.reduceEqDiff]; refine Z _ _ ?_; clear Z Y))
      all_goals iterate 5 (first | (refine S.y rfl rfl rfl rfl fun Y Z => ?_; simp only [zz, reduceIte, Nat.reduceEqDiff, Nat.reduceAdd, f3, f4, f5]; refine Z _ _ ?_; clear Z Y) | ((first | refine S.x rfl rfl rfl rfl fun Y Z => ?_ | refine S.u rfl rfl rfl rfl fun Y Z => ?_); simp only [ze, reduceIte, Nat.reduceEqDiff]; refine Z _ _ ?_; clear Z Y))
      all_goals (refine S.g rfl rfl fun Y Z => ?_; simp only [zz, reduceIte, Nat.reduceEqDiff, Nat.reduceAdd, f3, f4, f5]; refine Z _ _ ?_; clear Z Y)
      all_goals refine S.nil ?_
      all_goals simp only [ze, reduceIte, Nat.reduceEqDiff, Nat.reduceLeDiff, Nat.reduceAdd, f3, f4, f5]
      all_goals (try simp only [beq_eq_false_iff_ne, decide_eq_true_eq, decide_eq_false_iff_not, beq_iff_eq, ne_eq, Bool.not_eq_true', Bool.not_eq_false', bne_iff_ne, bne_eq_false_iff_eq] at *)
      all_goals (try simp only [V.c.injEq, Value.bool.injEq, Value.int.injEq, true_and, nameC, hlc])
      all_goals first | done | rfl | omega | ((rw [Bool.eq_iff_iff]; simp only [beq_eq_false_iff_ne, decide_eq_true_eq, decide_eq_false_iff_not, beq_iff_eq, ne_eq, Bool.not_eq_true', Bool.not_eq_false', bne_iff_ne, bne_eq_false_iff_eq, Bool.false_or, Bool.true_or, Bool.or_false, Bool.or_true, Bool.false_and, Bool.and_false, Bool.true_and, Bool.and_true, Bool.not_true, Bool.not_false, Bool.or_eq_false_iff, Bool.and_eq_false_iff, Bool.or_eq_true, Bool.and_eq_true, Bool.false_eq_true, Bool.true_eq_false, true_iff, iff_true, false_iff, iff_false]) <;> omega)
    rintro s2 σ2 ⟨rfl, g0, g7, g8, g9, g45⟩
    rw [f0] at g0; rw [f7] at g7; rw [f8] at g8; rw [f9] at g9
    have hd : str.data.toList.drop i = c :: str.data.toList.drop (i + 1) := by rw [← hcc]; exact List.drop_eq_getElem_cons hil
    rw [hd] at hp
    refine AW.cond (b := !nameC i c) g45 (fun ht => ?_) (fun hf => AW.skip ?_)
    · refine AW.seq_k fun K8 h8 => ?_
      all_goals refine AW.reg0 ?_
      all_goals (refine S.g rfl rfl fun Y Z => ?_; simp only [zz, reduceIte, Nat.reduceEqDiff, Nat.reduceAdd]; refine Z _ _ ?_; clear Z Y)
      all_goals refine S.nil ?_
      all_goals simp only [ze, reduceIte, Nat.reduceEqDiff, Nat.reduceLeDiff, Nat.reduceAdd]
      all_goals apply_assumption
      refine AW.ret ?_
      all_goals simp only [zs, reduceIte, Nat.reduceEqDiff, Nat.reduceLeDiff, Nat.reduceAdd]
      have hx : nameC i c = false := by simpa using ht
      simp [isName, hp, nameL, hx]
    · all_goals simp only [zs, reduceIte, Nat.reduceEqDiff, Nat.reduceLeDiff, Nat.reduceAdd]
      all_goals apply_assumption
      have hw : IntKind.i64.wrap ((i : Int) + 1) = ((i + 1 : Nat) : Int) := by rw [wrap_small _ (by omega) (by omega)]; rfl
      all_goals refine AW.reg0 ?_
      all_goals iterate 2 (refine S.g rfl rfl fun Y Z => ?_; simp only [zz, reduceIte, Nat.reduceEqDiff, Nat.reduceAdd, g9, hw]; refine Z _ _ ?_; clear Z Y)
      all_goals refine S.nil ?_
      all_goals simp only [ze, reduceIte, Nat.reduceEqDiff, Nat.reduceLeDiff, Nat.reduceAdd, g9, hw]
      have hx : nameC i c = true := by simpa using hf
      refine ⟨m - 1, by omega, i + 1, by omega, g0, g7, g8, ?_⟩
      rw [hp, nameL, hx, Bool.true_and]; exact ⟨rfl, rfl⟩
  · all_goals simp only [zs, reduceIte, Nat.reduceEqDiff, Nat.reduceLeDiff, Nat.reduceAdd]
    all_goals apply_assumption
    have hi : i = str.size := by have : ¬ i < str.size := by simpa using hc
                                 omega
    have hnil : str.data.toList.drop i = [] := List.drop_of_length_le (by rw [hi, Array.length_toList]; exact Nat.le_refl _)
    rw [hnil] at hp
    refine AW.seq_k fun K9 h9 => ?_
    all_goals refine AW.reg0 ?_
    all_goals (refine S.g rfl rfl fun Y Z => ?_; simp only [zz, reduceIte, Nat.reduceEqDiff, Nat.reduceAdd, e0]; refine Z _ _ ?_; clear Z Y)
    all_goals (refine S.g rfl rfl fun Y Z => ?_; simp only [zz, reduceIte, Nat.reduceEqDiff, Nat.reduceLeDiff, Nat.reduceAdd, e0]; refine S.bool fun b a48 => ?_; cases b <;> (try (exfalso; first | exact Bool.noConfusion a48 | (have h := of_decide_eq_true a48; omega) | (have h := of_decide_eq_false a48; omega))) <;> (refine Z _ _ ?_; clear Z Y))
    all_goals (refine S.g rfl rfl fun Y Z => ?_; simp only [zz, reduceIte, Nat.reduceEqDiff, Nat.reduceAdd, e0]; refine Z _ _ ?_; clear Z Y)
    all_goals iterate 3 (first | (refine S.y rfl rfl rfl rfl fun Y Z => ?_; simp only [zz, reduceIte, Nat.reduceEqDiff, Nat.reduceLeDiff, Nat.reduceAdd, st9, e0]; refine Z _ _ ?_; clear Z Y) | ((first | refine S.x rfl rfl rfl rfl fun Y Z => ?_ | refine S.u rfl rfl rfl rfl fun Y Z => ?_); simp only [ze, reduceIte, Nat.reduceEqDiff]; refine Z _ _ ?_; clear Z Y))
    all_goals iterate 2 (refine S.g rfl rfl fun Y Z => ?_; simp only [zz, reduceIte, Nat.reduceEqDiff, Nat.reduceAdd, e0]; refine Z _ _ ?_; clear Z Y)
    all_goals refine S.nil ?_
    all_goals simp only [ze, reduceIte, Nat.reduceEqDiff, Nat.reduceLeDiff, Nat.reduceAdd, e0]
    all_goals apply_assumption
    all_goals refine AW.ret ?_
    all_goals simp only [zs, reduceIte, Nat.reduceEqDiff, Nat.reduceLeDiff, Nat.reduceAdd]
    · have h1 : str.size = 0 := by simpa using a48
      simp [isName, h1]
    · have h1 : str.size ≠ 0 := by simpa using a48
      simp only [V.c.injEq, Value.bool.injEq, isName, hp, nameL]
      have h2 : (str.size != 0) = true := by simpa using h1
      rw [h2, Bool.true_and, Bool.true_and, decide_eq_decide]
      omega
end Go.Abs.M
namespace Go.Abs.M
open Go Go.Abs Go.Proofs
set_option maxRecDepth 20000
set_option linter.unusedSimpArgs false
theorem mixedO : Tryz.prog.follows .mixedOrders = true := by kernel_rfl
structure Val where
  kind : Int
  n : Int
  s : ByteArray
structure Attr where
  name : ByteArray
  v : Val
def encVal (v : Val) : List V := [.c (.int .i64 v.kind), .c (.int .i64 v.n), .c (.string v.s)]
def encAttr (a : Attr) : List V := [.c (.string a.name), .c (.int .i64 a.v.kind), .c (.int .i64 a.v.n), .c (.string a.v.s)]
def valOk (v : Val) : Bool := decide (v.kind = 1 ∧ v.s.size = 0 ∨ v.kind = 2 ∧ v.n = 0 ∧ v.s.size ≤ 64)
def valErr (v : Val) : Int := if valOk v then 0 else 30
theorem check_val (v : Val) : PCalls Tryz.prog 88 [.agg (encVal v)] (fun r => r = .c (.int .i64 (valErr v))) := by
 refine PCalls.intro Tryz.call88 Tryz.func88 rfl Tryz.ntmps88 Tryz.results88 (by simp) ?_
 refine AW.seq_k fun K1 h1 => ?_
 all_goals refine AW.reg0 ?_
 all_goals iterate 2 (refine S.g rfl rfl fun Y Z => ?_; simp only [zz, reduceIte, Nat.reduceEqDiff, Nat.reduceLeDiff, Nat.reduceAdd, ok40, sz40, ag40, encVal]; refine Z _ _ ?_; clear Z Y)
 all_goals refine S.nil ?_
 all_goals simp only [ze, reduceIte, Nat.reduceEqDiff, Nat.reduceLeDiff, Nat.reduceAdd, encVal]
 all_goals apply_assumption
 refine AW.seq_k fun K2 h2 => ?_
 refine AW.seq_j (fun s' σ' => σ' = Hp.empty ∧ s'.t 26 = .c (.bool (valOk v))) ?_ ?_
 ·skip
  all_goals refine AW.reg0 ?_
  all_goals iterate 2 (refine S.g rfl rfl fun Y Z => ?_; simp only [zz, reduceIte, Nat.reduceEqDiff, Nat.reduceLeDiff, Nat.reduceAdd, of40_0, ok3, sz3, ag3]; refine Z _ _ ?_; clear Z Y)
  all_goals (refine S.g rfl rfl fun Y Z => ?_; simp only [zz, reduceIte, Nat.reduceEqDiff, Nat.reduceLeDiff, Nat.reduceAdd]; refine S.bool fun b a5 => ?_; cases b <;> (try (exfalso; first | exact Bool.noConfusion a5 | (have h := of_decide_eq_true a5; omega) | (have h := of_decide_eq_false a5; omega))) <;> (refine Z _ _ ?_; clear Z Y))
  all_goals (refine S.g rfl rfl fun Y Z => ?_; simp only [zz, reduceIte, Nat.reduceEqDiff, Nat.reduceAdd]; refine Z _ _ ?_; clear Z Y)
  all_goals iterate 2 (first | (refine S.y rfl rfl rfl rfl fun Y Z => ?_; simp only [zz, reduceIte, Nat.reduceEqDiff, Nat.reduceLeDiff, Nat.reduceAdd, of40_2, ok9, sz9, ag9]; refine Z _ _ ?_; clear Z Y) | ((first | refine S.x rfl rfl rfl rfl fun Y Z => ?_ | refine S.u rfl rfl rfl rfl fun Y Z => ?_); simp only [ze, reduceIte, Nat.reduceEqDiff]; refine Z _ _ ?_; clear Z Y))
  all_goals (first | (refine S.y rfl rfl rfl rfl fun Y Z => ?_; simp only [zz, reduceIte, Nat.reduceEqDiff, Nat.reduceLeDiff, Nat.reduceAdd]; refine S.bool fun b a9 => ?_; cases b <;> (try (exfalso; first | exact Bool.noConfusion a9 | (have h := of_decide_eq_true a9; omega) | (have h := of_decide_eq_false a9; omega))) <;> (refine Z _ _ ?_; clear Z Y)) | ((first | refine S.x rfl rfl rfl rfl fun Y Z => ?_ | refine S.u rfl rfl rfl rfl fun Y Z => ?_); simp only [ze, reduceIte, Nat.reduceEqDiff]; refine Z _ _ ?_; clear Z Y))
  all_goals iterate 2 (refine S.g rfl rfl fun Y Z => ?_; simp only [zz, reduceIte, Nat.reduceEqDiff, Nat.reduceAdd]; refine Z _ _ ?_; clear Z Y)
  all_goals iterate 2 (first | (refine S.y rfl rfl rfl rfl fun Y Z => ?_; simp only [zz, reduceIte, Nat.reduceEqDiff, Nat.reduceLeDiff, Nat.reduceAdd, of40_0, ok3, sz3, ag3]; refine Z _ _ ?_; clear Z Y) | ((first | refine S.x rfl rfl rfl rfl fun Y Z => ?_ | refine S.u rfl rfl rfl rfl fun Y Z => ?_); simp only [ze, reduceIte, Nat.reduceEqDiff]; refine Z _ _ ?_; clear Z Y))
  all_goals (first | (refine S.y rfl rfl rfl rfl fun Y Z => ?_; simp only [zz, reduceIte, Nat.reduceEqDiff, Nat.reduceLeDiff, Nat.reduceAdd]; refine S.bool fun b a14 => ?_; cases b <;> (try (exfalso; first | exact Bool.noConfusion a14 | (have h := of_decide_eq_true a14; omega) | (have h := of_decide_eq_false a14; omega))) <;> (refine Z _ _ ?_; clear Z Y)) | ((first | refine S.x rfl rfl rfl rfl fun Y Z => ?_ | refine S.u rfl rfl rfl rfl fun Y Z => ?_); simp only [ze, reduceIte, Nat.reduceEqDiff]; refine Z _ _ ?_; clear Z Y))
  all_goals iterate 3 (first | (refine S.y rfl rfl rfl rfl fun Y Z => ?_; simp only [zz, reduceIte, Nat.reduceEqDiff, Nat.reduceLeDiff, Nat.reduceAdd, of40_1, ok2, sz2, ag2]; refine Z _ _ ?_; clear Z Y) | ((first | refine S.x rfl rfl rfl rfl fun Y Z => ?_ | refine S.u rfl rfl rfl rfl fun Y Z => ?_); simp only [ze, reduceIte, Nat.reduceEqDiff]; refine Z _ _ ?_; clear Z Y))
  all_goals (first | (refine S.y rfl rfl rfl rfl fun Y Z => ?_; simp only [zz, reduceIte, Nat.reduceEqDiff, Nat.reduceLeDiff, Nat.reduceAdd]; refine S.bool fun b a18 => ?_; cases b <;> (try (exfalso; first | exact Bool.noConfusion a18 | (have h := of_decide_eq_true a18; omega) | (have h := of_decide_eq_false a18; omega))) <;> (refine Z _ _ ?_; clear Z Y)) | ((first | refine S.x rfl rfl rfl rfl fun Y Z => ?_ | refine S.u rfl rfl rfl rfl fun Y Z => ?_); simp only [ze, reduceIte, Nat.reduceEqDiff]; refine Z _ _ ?_; clear Z Y))
  all_goals iterate 7 (first | (refine S.y rfl rfl rfl rfl fun Y Z => ?_; simp only [zz, reduceIte, Nat.reduceEqDiff, Nat.reduceLeDiff, Nat.reduceAdd, of40_2, ok9, sz9, ag9, st9]; refine Z _ _ ?_; clear Z Y) | ((first | refine S.x rfl rfl rfl rfl fun Y Z => ?_ | refine S.u rfl rfl rfl rfl fun Y Z => ?_); simp only [ze, reduceIte, Nat.reduceEqDiff]; refine Z _ _ ?_; clear Z Y))
  all_goals (refine S.g rfl rfl fun Y Z => ?_; simp only [zz, reduceIte, Nat.reduceEqDiff, Nat.reduceAdd]; refine Z _ _ ?_; clear Z Y)
  all_goals refine S.nil ?_
  all_goals simp only [ze, reduceIte, Nat.reduceEqDiff, Nat.reduceLeDiff, Nat.reduceAdd]
  all_goals (try simp only [beq_eq_false_iff_ne, decide_eq_true_eq, decide_eq_false_iff_not, beq_iff_eq, ne_eq, Bool.not_eq_true', Bool.not_eq_false', bne_iff_ne, bne_eq_false_iff_eq] at *)
  all_goals (try simp only [V.c.injEq, Value.bool.injEq, Value.int.injEq, true_and, valOk])
  all_goals first | done | rfl | omega | ((rw [Bool.eq_iff_iff]; simp only [beq_eq_false_iff_ne, decide_eq_true_eq, decide_eq_false_iff_not, beq_iff_eq, ne_eq, Bool.not_eq_true', Bool.not_eq_false', bne_iff_ne, bne_eq_false_iff_eq, Bool.false_or, Bool.true_or, Bool.or_false, Bool.or_true, Bool.false_and, Bool.and_false, Bool.true_and, Bool.and_true, Bool.not_true, Bool.not_false, Bool.or_eq_false_iff, Bool.and_eq_false_iff, Bool.or_eq_true, Bool.and_eq_true, Bool.false_eq_true, Bool.true_eq_false, true_iff, iff_true, false_iff, iff_false]) <;> omega)
 rintro s σ ⟨rfl, e26⟩
 refine AW.cond (b := valOk v) e26 (fun hc => ?_) (fun hc => AW.skip ?_)
 ·refine AW.seq_k fun K3 h3 => ?_
  all_goals refine AW.reg0 ?_
  all_goals (refine S.g rfl rfl fun Y Z => ?_; simp only [zz, reduceIte, Nat.reduceEqDiff, Nat.reduceAdd]; refine Z _ _ ?_; clear Z Y)
  all_goals refine S.nil ?_
  all_goals simp only [ze, reduceIte, Nat.reduceEqDiff, Nat.reduceLeDiff, Nat.reduceAdd]
  all_goals apply_assumption
  refine AW.ret ?_
  all_goals simp only [zs, reduceIte, Nat.reduceEqDiff, Nat.reduceLeDiff, Nat.reduceAdd]
  simp [valErr, hc]
 ·all_goals simp only [zs, reduceIte, Nat.reduceEqDiff, Nat.reduceLeDiff, Nat.reduceAdd]
  all_goals apply_assumption
  refine AW.seq_k fun K4 h4 => ?_
  all_goals refine AW.reg0 ?_
  all_goals (refine S.g rfl rfl fun Y Z => ?_; simp only [zz, reduceIte, Nat.reduceEqDiff, Nat.reduceAdd]; refine Z _ _ ?_; clear Z Y)
  all_goals refine S.nil ?_
  all_goals simp only [ze, reduceIte, Nat.reduceEqDiff, Nat.reduceLeDiff, Nat.reduceAdd]
  all_goals apply_assumption
  refine AW.ret ?_
  all_goals simp only [zs, reduceIte, Nat.reduceEqDiff, Nat.reduceLeDiff, Nat.reduceAdd]
  simp [valErr, hc]
end Go.Abs.M
namespace Go.Abs.M
open Go Go.Abs Go.Proofs
set_option maxRecDepth 20000
set_option linter.unusedSimpArgs false
set_option linter.unusedVariables false
structure Ev where
  src : Int
  seq : Int
  time : Int
  type : ByteArray
  attrs : List Attr
def encEv (e : Ev) : List V := [.c (.int .i64 e.src), .c (.int .i64 e.seq), .c (.int .i64 e.time), .c (.string e.type), .sl (e.attrs.map encAttr)]
def leS (a b : ByteArray) : Bool := Op.bytesLess a.toList b.toList || a.toList == b.toList
def attrsFrom : Option ByteArray → List Attr → Int
  | _, [] => 0
  | p, a :: l => if isName a.name = false then 31 else if valErr a.v ≠ 0 then valErr a.v else if p.any (leS a.name ·) then 32 else attrsFrom (some a.name) l
def attrsErr (l : List Attr) : Int := if 8 < l.length then 3 else attrsFrom none l
def timeOk (n : Int) : Bool := decide (0 ≤ n ∧ n ≤ 1099511627776)
def evErr (e : Ev) : Int := if e.src < 0 ∨ 16 ≤ e.src ∨ timeOk e.seq = false ∨ timeOk e.time = false ∨ isName e.type = false then 40 else attrsErr e.attrs
/-- Texts that fit in a memory. -/
def okA (l : List Attr) : Prop := ∀ a ∈ l, a.name.size < 4611686018427387904 ∧ a.v.s.size < 4611686018427387904
structure okE (e : Ev) : Prop where
  type : e.type.size < 4611686018427387904
  len : e.attrs.length < 4611686018427387904
  attrs : okA e.attrs
theorem time_spec (n : Int) : PCalls Tryz.prog 71 [.c (.int .i64 n)] (fun r => r = .c (.bool (timeOk n))) := by
 refine PCalls.intro Tryz.call71 Tryz.func71 rfl Tryz.ntmps71 Tryz.results71 (by simp) ?_
 refine AW.seq_k fun K1 h1 => ?_
 all_goals refine AW.reg0 ?_
 all_goals (refine S.g rfl rfl fun Y Z => ?_; simp only [zz, reduceIte, Nat.reduceEqDiff, Nat.reduceAdd]; refine Z _ _ ?_; clear Z Y)
 all_goals refine S.nil ?_
 all_goals simp only [ze, reduceIte, Nat.reduceEqDiff, Nat.reduceLeDiff, Nat.reduceAdd]
 all_goals apply_assumption
 refine AW.seq_j (fun s' σ' => σ' = Hp.empty ∧ s'.t 2 = .c (.bool (timeOk n))) ?_ ?_
 ·skip
  all_goals refine AW.reg0 ?_
  all_goals (refine S.g rfl rfl fun Y Z => ?_; simp only [zz, reduceIte, Nat.reduceEqDiff, Nat.reduceAdd]; refine Z _ _ ?_; clear Z Y)
  all_goals (refine S.g rfl rfl fun Y Z => ?_; simp only [zz, reduceIte, Nat.reduceEqDiff, Nat.reduceLeDiff, Nat.reduceAdd]; refine S.bool fun b a4 => ?_; cases b <;> (try (exfalso; first | exact Bool.noConfusion a4 | (have h := of_decide_eq_true a4; omega) | (have h := of_decide_eq_false a4; omega))) <;> (refine Z _ _ ?_; clear Z Y))
  all_goals (refine S.g rfl rfl fun Y Z => ?_; simp only [zz, reduceIte, Nat.reduceEqDiff, Nat.reduceAdd]; refine Z _ _ ?_; clear Z Y)
  all_goals iterate 2 (first | (refine S.y rfl rfl rfl rfl fun Y Z => ?_; simp only [zz, reduceIte, Nat.reduceEqDiff, Nat.reduceAdd]; refine Z _ _ ?_; clear Z Y) | ((first | refine S.x rfl rfl rfl rfl fun Y Z => ?_ | refine S.u rfl rfl rfl rfl fun Y Z => ?_); simp only [ze, reduceIte, Nat.reduceEqDiff]; refine Z _ _ ?_; clear Z Y))
  all_goals iterate 2 (refine S.g rfl rfl fun Y Z => ?_; simp only [zz, reduceIte, Nat.reduceEqDiff, Nat.reduceAdd]; refine Z _ _ ?_; clear Z Y)
  all_goals refine S.nil ?_
  all_goals simp only [ze, reduceIte, Nat.reduceEqDiff, Nat.reduceLeDiff, Nat.reduceAdd]
  all_goals (try simp only [beq_eq_false_iff_ne, decide_eq_true_eq, decide_eq_false_iff_not, beq_iff_eq, ne_eq, Bool.not_eq_true', Bool.not_eq_false', bne_iff_ne, bne_eq_false_iff_eq] at *)
  all_goals (try simp only [V.c.injEq, Value.bool.injEq, Value.int.injEq, true_and, timeOk])
  all_goals first | done | rfl | omega | ((rw [Bool.eq_iff_iff]; simp only [beq_eq_false_iff_ne, decide_eq_true_eq, decide_eq_false_iff_not, beq_iff_eq, ne_eq, Bool.not_eq_true', Bool.not_eq_false', bne_iff_ne, bne_eq_false_iff_eq, Bool.false_or, Bool.true_or, Bool.or_false, Bool.or_true, Bool.false_and, Bool.and_false, Bool.true_and, Bool.and_true, Bool.not_true, Bool.not_false, Bool.or_eq_false_iff, Bool.and_eq_false_iff, Bool.or_eq_true, Bool.and_eq_true, Bool.false_eq_true, Bool.true_eq_false, true_iff, iff_true, false_iff, iff_false]) <;> omega)
 rintro s σ ⟨rfl, e2⟩
 refine AW.ret ?_
 all_goals simp only [zs, reduceIte, Nat.reduceEqDiff, Nat.reduceLeDiff, Nat.reduceAdd, e2]
theorem check_attrs (l : List Attr) (hl : okA l) : PCalls Tryz.prog 72 [.sl (l.map encAttr)] (fun r => r = .c (.int .i64 (attrsErr l))) := by
 refine PCalls.intro Tryz.call72 Tryz.func72 rfl Tryz.ntmps72 Tryz.results72 (by simp) ?_
 refine AW.seq_k fun K1 h1 => ?_
 refine AW.reg0 ?_
 (refine S.g rfl rfl fun Y Z => ?_; simp only [zz, reduceIte, Nat.reduceEqDiff, Nat.reduceAdd]; refine Z _ _ ?_; clear Z Y)
 refine S.nil ?_
 simp only [ze, reduceIte, Nat.reduceEqDiff, Nat.reduceLT, Nat.reduceLeDiff, Nat.reduceAdd, reduceCtorEq, Nat.reduceMul]
 apply_assumption
 refine AW.seq_k fun K2 h2 => ?_
 refine AW.seq_k fun K3 h3 => ?_
 refine AW.reg0 ?_
 iterate 3 (refine S.g rfl rfl fun Y Z => ?_; simp only [zz, reduceIte, Nat.reduceEqDiff, Nat.reduceLT, Nat.reduceLeDiff, Nat.reduceAdd, reduceCtorEq, Nat.reduceMul, sl34, el34, ok42, sz42, ag42]; refine Z _ _ ?_; clear Z Y)
 refine S.nil ?_
 simp only [ze, reduceIte, Nat.reduceEqDiff, Nat.reduceLT, Nat.reduceLeDiff, Nat.reduceAdd, reduceCtorEq, Nat.reduceMul]
 apply_assumption
 refine AW.cond (b := decide ((l.length : Int) > 8)) (by simp [ev]) (fun hc => ?_) (fun hc => ?_)
 ·refine AW.seq_k fun K4 h4 => ?_
  refine AW.reg0 ?_
  (refine S.g rfl rfl fun Y Z => ?_; simp only [zz, reduceIte, Nat.reduceEqDiff, Nat.reduceAdd]; refine Z _ _ ?_; clear Z Y)
  refine S.nil ?_
  simp only [ze, reduceIte, Nat.reduceEqDiff, Nat.reduceLT, Nat.reduceLeDiff, Nat.reduceAdd, reduceCtorEq, Nat.reduceMul]
  apply_assumption
  refine AW.ret ?_
  simp only [zs, reduceIte, Nat.reduceEqDiff, Nat.reduceLT, Nat.reduceLeDiff, Nat.reduceAdd, reduceCtorEq, Nat.reduceMul]
  have : 8 < l.length := by have := of_decide_eq_true hc; omega
  simp [attrsErr, this]
 ·refine AW.skip ?_
  simp only [zs, reduceIte, Nat.reduceEqDiff, Nat.reduceLT, Nat.reduceLeDiff, Nat.reduceAdd, reduceCtorEq, Nat.reduceMul]
  apply_assumption
  have hlen : l.length ≤ 8 := by have := of_decide_eq_false hc; omega
  refine AW.seq_k fun K5 h5 => ?_
  refine AW.seq_k fun K6 h6 => ?_
  refine AW.reg0 ?_
  iterate 3 (refine S.g rfl rfl fun Y Z => ?_; simp only [zz, reduceIte, Nat.reduceEqDiff, Nat.reduceLT, Nat.reduceLeDiff, Nat.reduceAdd, reduceCtorEq, Nat.reduceMul, sl34, el34, ok42, sz42, ag42]; refine Z _ _ ?_; clear Z Y)
  refine S.nil ?_
  simp only [ze, reduceIte, Nat.reduceEqDiff, Nat.reduceLT, Nat.reduceLeDiff, Nat.reduceAdd, reduceCtorEq, Nat.reduceMul]
  apply_assumption
  refine AW.block ?_   -- 0
  refine AW.loop (fun m s σ => σ = Hp.empty ∧ ∃ i : Nat, m + i = l.length ∧ s.t 0 = .sl (l.map encAttr) ∧ s.t 9 = .sl (l.map encAttr) ∧ s.t 10 = .c (.int .i64 l.length) ∧ s.t 11 = .c (.int .i64 i) ∧ 
   attrsFrom none l = attrsFrom (if i = 0 then none else (l[i-1]?).map (·.name)) (l.drop i)) l.length ?_ ?_
  ·refine ⟨rfl, 0, by simp, ?_⟩
   simp only [zs, reduceIte, Nat.reduceEqDiff, Nat.reduceLT, Nat.reduceLeDiff, Nat.reduceAdd, reduceCtorEq, Nat.reduceMul]
   simp
  rintro m s σ ⟨rfl, i, hm, e0, e9, e10, e11, hp⟩
  refine AW.seq_k fun K7 h7 => ?_
  refine AW.reg0 ?_
  (refine S.g rfl rfl fun Y Z => ?_; simp only [zz, reduceIte, Nat.reduceEqDiff, Nat.reduceAdd, e10, e11]; refine Z _ _ ?_; clear Z Y)
  refine S.nil ?_
  simp only [ze, reduceIte, Nat.reduceEqDiff, Nat.reduceLT, Nat.reduceLeDiff, Nat.reduceAdd, reduceCtorEq, Nat.reduceMul, e10, e11]
  apply_assumption
  refine AW.seq_k fun K8 h8 => ?_
  refine AW.cond (b := decide (i < l.length)) (by simp [ev]) (fun hc => ?_) (fun hc => ?_)
  ·refine AW.skip ?_
   simp only [zs, reduceIte, Nat.reduceEqDiff, Nat.reduceLT, Nat.reduceLeDiff, Nat.reduceAdd, reduceCtorEq, Nat.reduceMul]
   apply_assumption
   have hi : i < l.length := by simpa using hc
   have hg := getD_map (f := encAttr) hi
   have hd : l.drop i = l[i] :: l.drop (i + 1) := List.drop_eq_getElem_cons hi
   have hmem := hl _ (List.getElem_mem hi)
   generalize ha : l[i] = a at hg hd hmem
   obtain ⟨hn1, hn2⟩ := hmem
   refine AW.seq_k fun K9 h9 => ?_
   refine AW.block ?_   -- 1
   refine AW.seq_k fun K10 h10 => ?_
   refine AW.reg0 ?_
   iterate 6 (refine S.g rfl rfl fun Y Z => ?_; simp only [zz, reduceIte, Nat.reduceEqDiff, Nat.reduceLT, Nat.reduceLeDiff, Nat.reduceAdd, reduceCtorEq, Nat.reduceMul, sl34, el34, ok42, sz42, ag42, zt42, e9, e11, hi, hg, encAttr]; refine Z _ _ ?_; clear Z Y)
   refine S.nil ?_
   simp only [ze, reduceIte, Nat.reduceEqDiff, Nat.reduceLT, Nat.reduceLeDiff, Nat.reduceAdd, reduceCtorEq, Nat.reduceMul, e9, e11, hi, hg, encAttr]
   apply_assumption
   refine AW.seq_k fun K11 h11 => ?_
   refine AW.seq_k fun K12 h12 => ?_
   refine AW.reg0 ?_
   iterate 2 (refine S.g rfl rfl fun Y Z => ?_; simp only [zz, reduceIte, Nat.reduceEqDiff, Nat.reduceLT, Nat.reduceLeDiff, Nat.reduceAdd, reduceCtorEq, Nat.reduceMul, of42_0, ok9, sz9, ag9]; refine Z _ _ ?_; clear Z Y)
   (refine S.g rfl rfl fun Y Z => ?_; simp only [zz, reduceIte, Nat.reduceEqDiff, Nat.reduceLT, Nat.reduceLeDiff, Nat.reduceAdd, reduceCtorEq, Nat.reduceMul]; refine PCalls.eqto (name_spec _ (by assumption)) ?_ <;> (refine Z _ _ ?_; clear Z Y))
   (refine S.g rfl rfl fun Y Z => ?_; simp only [zz, reduceIte, Nat.reduceEqDiff, Nat.reduceAdd]; refine Z _ _ ?_; clear Z Y)
   refine S.nil ?_
   simp only [ze, reduceIte, Nat.reduceEqDiff, Nat.reduceLT, Nat.reduceLeDiff, Nat.reduceAdd, reduceCtorEq, Nat.reduceMul]
   apply_assumption
   refine AW.cond (b := !isName a.name) (by simp [ev]) (fun hc => ?_) (fun hc => ?_)
   ·refine AW.seq_k fun K13 h13 => ?_
    refine AW.reg0 ?_
    (refine S.g rfl rfl fun Y Z => ?_; simp only [zz, reduceIte, Nat.reduceEqDiff, Nat.reduceAdd]; refine Z _ _ ?_; clear Z Y)
    refine S.nil ?_
    simp only [ze, reduceIte, Nat.reduceEqDiff, Nat.reduceLT, Nat.reduceLeDiff, Nat.reduceAdd, reduceCtorEq, Nat.reduceMul]
    apply_assumption
    refine AW.ret ?_
    simp only [zs, reduceIte, Nat.reduceEqDiff, Nat.reduceLT, Nat.reduceLeDiff, Nat.reduceAdd, reduceCtorEq, Nat.reduceMul]
    have hx : isName a.name = false := by simpa using hc
    have h8 : ¬ 8 < l.length := by omega
    simp [attrsErr, h8, hp, hd, attrsFrom, hx]
   ·refine AW.skip ?_
    simp only [zs, reduceIte, Nat.reduceEqDiff, Nat.reduceLT, Nat.reduceLeDiff, Nat.reduceAdd, reduceCtorEq, Nat.reduceMul]
    apply_assumption
    have hx : isName a.name = true := by simpa using hc
    refine AW.seq_k fun K14 h14 => ?_
    refine AW.seq_k fun K15 h15 => ?_
    refine AW.reg0 ?_
    iterate 2 (refine S.g rfl rfl fun Y Z => ?_; simp only [zz, reduceIte, Nat.reduceEqDiff, Nat.reduceLT, Nat.reduceLeDiff, Nat.reduceAdd, reduceCtorEq, Nat.reduceMul, of42_1, ok40, sz40, ag40]; refine Z _ _ ?_; clear Z Y)
    (refine S.g rfl rfl fun Y Z => ?_; simp only [zz, reduceIte, Nat.reduceEqDiff, Nat.reduceLT, Nat.reduceLeDiff, Nat.reduceAdd, reduceCtorEq, Nat.reduceMul]; refine PCalls.eqto (check_val _) ?_ <;> (refine Z _ _ ?_; clear Z Y))
    (refine S.g rfl rfl fun Y Z => ?_; simp only [zz, reduceIte, Nat.reduceEqDiff, Nat.reduceAdd]; refine Z _ _ ?_; clear Z Y)
    refine S.nil ?_
    simp only [ze, reduceIte, Nat.reduceEqDiff, Nat.reduceLT, Nat.reduceLeDiff, Nat.reduceAdd, reduceCtorEq, Nat.reduceMul]
    apply_assumption
    refine AW.seq_k fun K16 h16 => ?_
    refine AW.reg0 ?_
    iterate 2 (refine S.g rfl rfl fun Y Z => ?_; simp only [zz, reduceIte, Nat.reduceEqDiff, Nat.reduceAdd]; refine Z _ _ ?_; clear Z Y)
    refine S.nil ?_
    simp only [ze, reduceIte, Nat.reduceEqDiff, Nat.reduceLT, Nat.reduceLeDiff, Nat.reduceAdd, reduceCtorEq, Nat.reduceMul]
    apply_assumption
    refine AW.cond (b := valErr a.v != 0) (by simp [ev]) (fun hc => ?_) (fun hc => ?_)
    ·refine AW.seq_k fun K17 h17 => ?_
     refine AW.reg0 ?_
     iterate 2 (refine S.g rfl rfl fun Y Z => ?_; simp only [zz, reduceIte, Nat.reduceEqDiff, Nat.reduceAdd]; refine Z _ _ ?_; clear Z Y)
     refine S.nil ?_
     simp only [ze, reduceIte, Nat.reduceEqDiff, Nat.reduceLT, Nat.reduceLeDiff, Nat.reduceAdd, reduceCtorEq, Nat.reduceMul]
     apply_assumption
     refine AW.ret ?_
     simp only [zs, reduceIte, Nat.reduceEqDiff, Nat.reduceLT, Nat.reduceLeDiff, Nat.reduceAdd, reduceCtorEq, Nat.reduceMul]
     have hy : valErr a.v ≠ 0 := by simpa using hc
     have h8 : ¬ 8 < l.length := by omega
     simp [attrsErr, h8, hp, hd, attrsFrom, hx, hy]
    ·refine AW.skip ?_
     simp only [zs, reduceIte, Nat.reduceEqDiff, Nat.reduceLT, Nat.reduceLeDiff, Nat.reduceAdd, reduceCtorEq, Nat.reduceMul]
     apply_assumption
     have hy : valErr a.v = 0 := by simpa using hc
     refine AW.seq_j (fun s' σ' => σ' = Hp.empty ∧ s'.t 0 = .sl (l.map encAttr) ∧ s'.t 9 = .sl (l.map encAttr) ∧ s'.t 10 = .c (.int .i64 l.length) ∧ s'.t 11 = .c (.int .i64 i) ∧
      s'.t 38 = .c (.bool ((if i = 0 then none else (l[i-1]?).map (·.name)).any (leS a.name ·)))) ?_ ?_
     ·clear hp hd
      by_cases hi0 : i = 0
      ·subst hi0
       refine AW.draw (T := { sd := fun d => d == 4 }) (fun _ _ h => by cases h) mixedO [(0, 0), (1, 0), (2, 0), (3, 0), (5, 0), (6, 0), (7, 0), (8, 0), (9, 0), (4, 1), (10, 1), (11, 0), (12, 0)] rfl (by kernel_rfl) (by kernel_rfl) ?_
       (refine D.g rfl trivial rfl rfl fun Y Z => ?_; simp only [zz, reduceIte, Nat.reduceEqDiff, Nat.reduceAdd, e0, e9, e10, e11]; refine Z _ _ ?_; clear Z Y)
       (refine D.g rfl trivial rfl rfl fun Y Z => ?_; simp only [zz, reduceIte, Nat.reduceEqDiff, Nat.reduceLT, Nat.reduceLeDiff, Nat.reduceAdd, reduceCtorEq, Nat.reduceMul, e0, e9, e10, e11]; refine S.bool fun b a27 => ?_; cases b <;> (try (exfalso; first | exact Bool.noConfusion a27 | (have h := of_decide_eq_true a27; omega) | (have h := of_decide_eq_false a27; omega))) <;> (refine Z _ _ ?_; clear Z Y))
       (refine D.g rfl trivial rfl rfl fun Y Z => ?_; simp only [zz, reduceIte, Nat.reduceEqDiff, Nat.reduceAdd, e0, e9, e10, e11]; refine Z _ _ ?_; clear Z Y)
       iterate 6 (first | (refine D.y rfl trivial rfl rfl rfl rfl fun Y Z => ?_; simp only [zz, reduceIte, Nat.reduceEqDiff, Nat.reduceLT, Nat.reduceLeDiff, Nat.reduceAdd, reduceCtorEq, Nat.reduceMul, of42_0, sl34, el34, ok42, sz42, ag42, e0, e9, e10, e11]; refine Z _ _ ?_; clear Z Y) | ((first | refine D.x rfl (fun h => by cases h) rfl rfl rfl rfl fun Y Z => ?_ | refine D.u rfl (fun h => by cases h) rfl rfl rfl rfl fun Y Z => ?_); simp only [ze, reduceIte, Nat.reduceEqDiff]; refine Z _ _ ?_; clear Z Y))
       iterate 2 (first | (refine D.y rfl (by first | rfl | (simp only [stC, ze, reduceIte, Nat.reduceEqDiff, e0, e9, e10, e11]; done) | (simp only [stC, ze, reduceIte, Nat.reduceEqDiff, e0, e9, e10, e11]; rfl)) rfl rfl rfl rfl fun Y Z => ?_; simp only [zz, reduceIte, Nat.reduceEqDiff, Nat.reduceLT, Nat.reduceLeDiff, Nat.reduceAdd, reduceCtorEq, Nat.reduceMul, ok9, sz9, ag9, e0, e9, e10, e11]; refine Z _ _ ?_; clear Z Y) | ((first | refine D.x rfl (fun _ => rfl) rfl rfl rfl rfl fun Y Z => ?_ | refine D.u rfl (fun _ => rfl) rfl rfl rfl rfl fun Y Z => ?_); simp only [ze, reduceIte, Nat.reduceEqDiff]; refine Z _ _ ?_; clear Z Y))
       (first | (refine D.y rfl trivial rfl rfl rfl rfl fun Y Z => ?_; simp only [zz, reduceIte, Nat.reduceEqDiff, Nat.reduceAdd, e0, e9, e10, e11]; refine Z _ _ ?_; clear Z Y) | ((first | refine D.x rfl (fun h => by cases h) rfl rfl rfl rfl fun Y Z => ?_ | refine D.u rfl (fun h => by cases h) rfl rfl rfl rfl fun Y Z => ?_); simp only [ze, reduceIte, Nat.reduceEqDiff]; refine Z _ _ ?_; clear Z Y))
       (refine D.g rfl trivial rfl rfl fun Y Z => ?_; simp only [zz, reduceIte, Nat.reduceEqDiff, Nat.reduceAdd, e0, e9, e10, e11]; refine Z _ _ ?_; clear Z Y)
       refine D.nil ?_
       simp only [ze, reduceIte, Nat.reduceEqDiff, Nat.reduceLT, Nat.reduceLeDiff, Nat.reduceAdd, reduceCtorEq, Nat.reduceMul, e0, e9, e10, e11]
       simp
      ·have hi1 : i - 1 < l.length := by omega
       have hg1 := getD_map (f := encAttr) hi1
       have hw : IntKind.i64.wrap ((i : Int) - 1) = ((i - 1 : Nat) : Int) := by rw [wrap_small _ (by omega) (by omega)]; omega
       refine AW.draw (T := { sd := fun d => d == 4 }) (fun _ _ h => by cases h) mixedO [(0, 0), (1, 0), (2, 0), (3, 0), (5, 0), (6, 0), (7, 0), (8, 0), (9, 0), (4, 1), (10, 1), (11, 0), (12, 0)] rfl (by kernel_rfl) (by kernel_rfl) ?_
       (refine D.g rfl trivial rfl rfl fun Y Z => ?_; simp only [zz, reduceIte, Nat.reduceEqDiff, Nat.reduceAdd, e0, e9, e10, e11, hi1, hg1, encAttr, hw]; refine Z _ _ ?_; clear Z Y)
       (refine D.g rfl trivial rfl rfl fun Y Z => ?_; simp only [zz, reduceIte, Nat.reduceEqDiff, Nat.reduceLT, Nat.reduceLeDiff, Nat.reduceAdd, reduceCtorEq, Nat.reduceMul, e0, e9, e10, e11, hi1, hg1, encAttr, hw]; refine S.bool fun b a27 => ?_; cases b <;> (try (exfalso; first | exact Bool.noConfusion a27 | (have h := of_decide_eq_true a27; omega) | (have h := of_decide_eq_false a27; omega))) <;> (refine Z _ _ ?_; clear Z Y))
       (refine D.g rfl trivial rfl rfl fun Y Z => ?_; simp only [zz, reduceIte, Nat.reduceEqDiff, Nat.reduceAdd, e0, e9, e10, e11, hi1, hg1, encAttr, hw]; refine Z _ _ ?_; clear Z Y)
       iterate 6 (first | (refine D.y rfl trivial rfl rfl rfl rfl fun Y Z => ?_; simp only [zz, reduceIte, Nat.reduceEqDiff, Nat.reduceLT, Nat.reduceLeDiff, Nat.reduceAdd, reduceCtorEq, Nat.reduceMul, of42_0, sl34, el34, ok42, sz42, ag42, e0, e9, e10, e11, hi1, hg1, encAttr, hw]; refine Z _ _ ?_; clear Z Y) | ((first | refine D.x rfl (fun h => by cases h) rfl rfl rfl rfl fun Y Z => ?_ | refine D.u rfl (fun h => by cases h) rfl rfl rfl rfl fun Y Z => ?_); simp only [ze, reduceIte, Nat.reduceEqDiff]; refine Z _ _ ?_; clear Z Y))
       iterate 2 (first | (refine D.y rfl (by first | rfl | (simp only [stC, ze, reduceIte, Nat.reduceEqDiff, e0, e9, e10, e11, hi1, hg1, encAttr, hw]; done) | (simp only [stC, ze, reduceIte, Nat.reduceEqDiff, e0, e9, e10, e11, hi1, hg1, encAttr, hw]; rfl)) rfl rfl rfl rfl fun Y Z => ?_; simp only [zz, reduceIte, Nat.reduceEqDiff, Nat.reduceLT, Nat.reduceLeDiff, Nat.reduceAdd, reduceCtorEq, Nat.reduceMul, ok9, sz9, ag9, e0, e9, e10, e11, hi1, hg1, encAttr, hw]; refine Z _ _ ?_; clear Z Y) | ((first | refine D.x rfl (fun _ => rfl) rfl rfl rfl rfl fun Y Z => ?_ | refine D.u rfl (fun _ => rfl) rfl rfl rfl rfl fun Y Z => ?_); simp only [ze, reduceIte, Nat.reduceEqDiff]; refine Z _ _ ?_; clear Z Y))
       (first | (refine D.y rfl trivial rfl rfl rfl rfl fun Y Z => ?_; simp only [zz, reduceIte, Nat.reduceEqDiff, Nat.reduceAdd, e0, e9, e10, e11, hi1, hg1, encAttr, hw]; refine Z _ _ ?_; clear Z Y) | ((first | refine D.x rfl (fun h => by cases h) rfl rfl rfl rfl fun Y Z => ?_ | refine D.u rfl (fun h => by cases h) rfl rfl rfl rfl fun Y Z => ?_); simp only [ze, reduceIte, Nat.reduceEqDiff]; refine Z _ _ ?_; clear Z Y))
       (refine D.g rfl trivial rfl rfl fun Y Z => ?_; simp only [zz, reduceIte, Nat.reduceEqDiff, Nat.reduceAdd, e0, e9, e10, e11, hi1, hg1, encAttr, hw]; refine Z _ _ ?_; clear Z Y)
       refine D.nil ?_
       simp only [ze, reduceIte, Nat.reduceEqDiff, Nat.reduceLT, Nat.reduceLeDiff, Nat.reduceAdd, reduceCtorEq, Nat.reduceMul, e0, e9, e10, e11, hi1, hg1, encAttr, hw]
       simp [hi0, hi1, leS]
     rintro s1 σ1 ⟨rfl, f0, f9, f10, f11, f38⟩
     refine AW.cond (b := _) f38 (fun hc => ?_) (fun hc => ?_)
     ·refine AW.seq_k fun K18 h18 => ?_
      refine AW.reg0 ?_
      (refine S.g rfl rfl fun Y Z => ?_; simp only [zz, reduceIte, Nat.reduceEqDiff, Nat.reduceAdd]; refine Z _ _ ?_; clear Z Y)
      refine S.nil ?_
      simp only [ze, reduceIte, Nat.reduceEqDiff, Nat.reduceLT, Nat.reduceLeDiff, Nat.reduceAdd, reduceCtorEq, Nat.reduceMul]
      apply_assumption
      refine AW.ret ?_
      simp only [zs, reduceIte, Nat.reduceEqDiff, Nat.reduceLT, Nat.reduceLeDiff, Nat.reduceAdd, reduceCtorEq, Nat.reduceMul]
      have h8 : ¬ 8 < l.length := by omega
      simp [attrsErr, h8, hp, hd, attrsFrom, hx, hy, hc]
     ·refine AW.skip ?_
      simp only [zs, reduceIte, Nat.reduceEqDiff, Nat.reduceLT, Nat.reduceLeDiff, Nat.reduceAdd, reduceCtorEq, Nat.reduceMul]
      apply_assumption
      have hw : IntKind.i64.wrap ((i : Int) + 1) = ((i + 1 : Nat) : Int) := by rw [wrap_small _ (by omega) (by omega)]; rfl
      refine AW.reg0 ?_
      iterate 2 (refine S.g rfl rfl fun Y Z => ?_; simp only [zz, reduceIte, Nat.reduceEqDiff, Nat.reduceAdd, f11, hw]; refine Z _ _ ?_; clear Z Y)
      refine S.nil ?_
      simp only [ze, reduceIte, Nat.reduceEqDiff, Nat.reduceLT, Nat.reduceLeDiff, Nat.reduceAdd, reduceCtorEq, Nat.reduceMul, f11, hw]
      refine ⟨m - 1, by omega, i + 1, by omega, f0, f9, f10, rfl, ?_⟩
      rw [hp, hd, attrsFrom]
      simp [hx, hy, hc, ha, hi]
  ·refine AW.exit ?_
   simp only [zs, reduceIte, Nat.reduceEqDiff, Nat.reduceLT, Nat.reduceLeDiff, Nat.reduceAdd, reduceCtorEq, Nat.reduceMul]
   -- EXIT 0
   apply_assumption
   refine AW.seq_k fun K19 h19 => ?_
   refine AW.reg0 ?_
   (refine S.g rfl rfl fun Y Z => ?_; simp only [zz, reduceIte, Nat.reduceEqDiff, Nat.reduceAdd]; refine Z _ _ ?_; clear Z Y)
   refine S.nil ?_
   simp only [ze, reduceIte, Nat.reduceEqDiff, Nat.reduceLT, Nat.reduceLeDiff, Nat.reduceAdd, reduceCtorEq, Nat.reduceMul]
   apply_assumption
   refine AW.ret ?_
   simp only [zs, reduceIte, Nat.reduceEqDiff, Nat.reduceLT, Nat.reduceLeDiff, Nat.reduceAdd, reduceCtorEq, Nat.reduceMul]
   have hi : l.length ≤ i := by simpa using hc
   have h8 : ¬ 8 < l.length := by omega
   simp [attrsErr, h8, hp, List.drop_of_length_le hi, attrsFrom]
theorem check_ev (e : Ev) (he : okE e) : PCalls Tryz.prog 44 [.agg (encEv e)] (fun r => r = .c (.int .i64 (evErr e))) := by
 have h1 := he.type
 have h2 := he.attrs
 refine PCalls.intro Tryz.call44 Tryz.func44 rfl Tryz.ntmps44 Tryz.results44 (by simp) ?_
 refine AW.seq_k fun K1 h1 => ?_
 all_goals refine AW.reg0 ?_
 all_goals iterate 2 (refine S.g rfl rfl fun Y Z => ?_; simp only [zz, reduceIte, Nat.reduceEqDiff, Nat.reduceLeDiff, Nat.reduceAdd, ok36, sz36, ag36, encEv]; refine Z _ _ ?_; clear Z Y)
 all_goals refine S.nil ?_
 all_goals simp only [ze, reduceIte, Nat.reduceEqDiff, Nat.reduceLeDiff, Nat.reduceAdd, encEv]
 all_goals apply_assumption
 refine AW.seq_k fun K2 h2 => ?_
 refine AW.seq_j (fun s' σ' => σ' = Hp.empty ∧ s'.l 1 = some (encEv e) ∧ s'.t 1 = .lp 1 0 ∧ s'.t 31 = .c (.bool (decide (e.src < 0 ∨ 16 ≤ e.src ∨ timeOk e.seq = false ∨ timeOk e.time = false ∨ isName e.type = false)))) ?_ ?_
 ·skip
  all_goals refine AW.reg0 ?_
  all_goals iterate 3 (refine S.g rfl rfl fun Y Z => ?_; simp only [zz, reduceIte, Nat.reduceEqDiff, Nat.reduceLeDiff, Nat.reduceAdd, of36_0, of33_0, ok3, sz3, ag3, encEv]; refine Z _ _ ?_; clear Z Y)
  all_goals (refine S.g rfl rfl fun Y Z => ?_; simp only [zz, reduceIte, Nat.reduceEqDiff, Nat.reduceLeDiff, Nat.reduceAdd, encEv]; refine S.bool fun b a6 => ?_; cases b <;> (try (exfalso; first | exact Bool.noConfusion a6 | (have h := of_decide_eq_true a6; omega) | (have h := of_decide_eq_false a6; omega))) <;> (refine Z _ _ ?_; clear Z Y))
  all_goals (refine S.g rfl rfl fun Y Z => ?_; simp only [zz, reduceIte, Nat.reduceEqDiff, Nat.reduceAdd, encEv]; refine Z _ _ ?_; clear Z Y)
  all_goals iterate 3 (first | (refine S.y rfl rfl rfl rfl fun Y Z => ?_; simp only [zz, reduceIte, Nat.reduceEqDiff, Nat.reduceLeDiff, Nat.reduceAdd, of36_0, of33_0, ok3, sz3, ag3, encEv]; refine Z _ _ ?_; clear Z Y) | ((first | refine S.x rfl rfl rfl rfl fun Y Z => ?_ | refine S.u rfl rfl rfl rfl fun Y Z => ?_); simp only [ze, reduceIte, Nat.reduceEqDiff]; refine Z _ _ ?_; clear Z Y))
  all_goals (first | (refine S.y rfl rfl rfl rfl fun Y Z => ?_; simp only [zz, reduceIte, Nat.reduceEqDiff, Nat.reduceLeDiff, Nat.reduceAdd, encEv]; refine S.bool fun b a11 => ?_; cases b <;> (try (exfalso; first | exact Bool.noConfusion a11 | (have h := of_decide_eq_true a11; omega) | (have h := of_decide_eq_false a11; omega))) <;> (refine Z _ _ ?_; clear Z Y)) | ((first | refine S.x rfl rfl rfl rfl fun Y Z => ?_ | refine S.u rfl rfl rfl rfl fun Y Z => ?_); simp only [ze, reduceIte, Nat.reduceEqDiff]; refine Z _ _ ?_; clear Z Y))
  all_goals iterate 2 (refine S.g rfl rfl fun Y Z => ?_; simp only [zz, reduceIte, Nat.reduceEqDiff, Nat.reduceAdd, encEv]; refine Z _ _ ?_; clear Z Y)
  all_goals iterate 3 (first | (refine S.y rfl rfl rfl rfl fun Y Z => ?_; simp only [zz, reduceIte, Nat.reduceEqDiff, Nat.reduceLeDiff, Nat.reduceAdd, of36_0, of33_1, ok2, sz2, ag2, encEv]; refine Z _ _ ?_; clear Z Y) | ((first | refine S.x rfl rfl rfl rfl fun Y Z => ?_ | refine S.u rfl rfl rfl rfl fun Y Z => ?_); simp only [ze, reduceIte, Nat.reduceEqDiff]; refine Z _ _ ?_; clear Z Y))
  all_goals (first | (refine S.y rfl rfl rfl rfl fun Y Z => ?_; simp only [zz, reduceIte, Nat.reduceEqDiff, Nat.reduceLeDiff, Nat.reduceAdd, encEv]; refine PCalls.eqto (time_spec _) ?_; refine S.bool fun b a17 => ?_; cases b <;> (try (exfalso; first | exact Bool.noConfusion a17 | (have h := of_decide_eq_true a17; omega) | (have h := of_decide_eq_false a17; omega))) <;> (refine Z _ _ ?_; clear Z Y)) | ((first | refine S.x rfl rfl rfl rfl fun Y Z => ?_ | refine S.u rfl rfl rfl rfl fun Y Z => ?_); simp only [ze, reduceIte, Nat.reduceEqDiff]; refine Z _ _ ?_; clear Z Y))
  all_goals (first | (refine S.y rfl rfl rfl rfl fun Y Z => ?_; simp only [zz, reduceIte, Nat.reduceEqDiff, Nat.reduceAdd, encEv]; refine Z _ _ ?_; clear Z Y) | ((first | refine S.x rfl rfl rfl rfl fun Y Z => ?_ | refine S.u rfl rfl rfl rfl fun Y Z => ?_); simp only [ze, reduceIte, Nat.reduceEqDiff]; refine Z _ _ ?_; clear Z Y))
  all_goals iterate 2 (refine S.g rfl rfl fun Y Z => ?_; simp only [zz, reduceIte, Nat.reduceEqDiff, Nat.reduceAdd, encEv]; refine Z _ _ ?_; clear Z Y)
  all_goals iterate 2 (first | (refine S.y rfl rfl rfl rfl fun Y Z => ?_; simp only [zz, reduceIte, Nat.reduceEqDiff, Nat.reduceLeDiff, Nat.reduceAdd, of36_1, ok2, sz2, ag2, encEv]; refine Z _ _ ?_; clear Z Y) | ((first | refine S.x rfl rfl rfl rfl fun Y Z => ?_ | refine S.u rfl rfl rfl rfl fun Y Z => ?_); simp only [ze, reduceIte, Nat.reduceEqDiff]; refine Z _ _ ?_; clear Z Y))
  all_goals (first | (refine S.y rfl rfl rfl rfl fun Y Z => ?_; simp only [zz, reduceIte, Nat.reduceEqDiff, Nat.reduceLeDiff, Nat.reduceAdd, encEv]; refine PCalls.eqto (time_spec _) ?_; refine S.bool fun b a23 => ?_; cases b <;> (try (exfalso; first | exact Bool.noConfusion a23 | (have h := of_decide_eq_true a23; omega) | (have h := of_decide_eq_false a23; omega))) <;> (refine Z _ _ ?_; clear Z Y)) | ((first | refine S.x rfl rfl rfl rfl fun Y Z => ?_ | refine S.u rfl rfl rfl rfl fun Y Z => ?_); simp only [ze, reduceIte, Nat.reduceEqDiff]; refine Z _ _ ?_; clear Z Y))
  all_goals (first | (refine S.y rfl rfl rfl rfl fun Y Z => ?_; simp only [zz, reduceIte, Nat.reduceEqDiff, Nat.reduceAdd, encEv]; refine Z _ _ ?_; clear Z Y) | ((first | refine S.x rfl rfl rfl rfl fun Y Z => ?_ | refine S.u rfl rfl rfl rfl fun Y Z => ?_); simp only [ze, reduceIte, Nat.reduceEqDiff]; refine Z _ _ ?_; clear Z Y))
  all_goals iterate 2 (refine S.g rfl rfl fun Y Z => ?_; simp only [zz, reduceIte, Nat.reduceEqDiff, Nat.reduceAdd, encEv]; refine Z _ _ ?_; clear Z Y)
  all_goals iterate 2 (first | (refine S.y rfl rfl rfl rfl fun Y Z => ?_; simp only [zz, reduceIte, Nat.reduceEqDiff, Nat.reduceLeDiff, Nat.reduceAdd, of36_2, ok9, sz9, ag9, encEv]; refine Z _ _ ?_; clear Z Y) | ((first | refine S.x rfl rfl rfl rfl fun Y Z => ?_ | refine S.u rfl rfl rfl rfl fun Y Z => ?_); simp only [ze, reduceIte, Nat.reduceEqDiff]; refine Z _ _ ?_; clear Z Y))
  all_goals (first | (refine S.y rfl rfl rfl rfl fun Y Z => ?_; simp only [zz, reduceIte, Nat.reduceEqDiff, Nat.reduceLeDiff, Nat.reduceAdd, encEv]; refine PCalls.eqto (name_spec _ (by assumption)) ?_ <;> (refine Z _ _ ?_; clear Z Y)) | ((first | refine S.x rfl rfl rfl rfl fun Y Z => ?_ | refine S.u rfl rfl rfl rfl fun Y Z => ?_); simp only [ze, reduceIte, Nat.reduceEqDiff]; refine Z _ _ ?_; clear Z Y))
  all_goals (first | (refine S.y rfl rfl rfl rfl fun Y Z => ?_; simp only [zz, reduceIte, Nat.reduceEqDiff, Nat.reduceAdd, encEv]; refine Z _ _ ?_; clear Z Y) | ((first | refine S.x rfl rfl rfl rfl fun Y Z => ?_ | refine S.u rfl rfl rfl rfl fun Y Z => ?_); simp only [ze, reduceIte, Nat.reduceEqDiff]; refine Z _ _ ?_; clear Z Y))
  all_goals (refine S.g rfl rfl fun Y Z => ?_; simp only [zz, reduceIte, Nat.reduceEqDiff, Nat.reduceAdd, encEv]; refine Z _ _ ?_; clear Z Y)
  all_goals refine S.nil ?_
  all_goals simp only [ze, reduceIte, Nat.reduceEqDiff, Nat.reduceLeDiff, Nat.reduceAdd, encEv]
  all_goals simp_all
  have k1 : ¬ e.src < 0 := by omega
  have k2 : ¬ 16 ≤ e.src := by omega
  simp [k1, k2]
 rintro s σ ⟨rfl, l1, e1, e31⟩
 rw [encEv] at l1
 refine AW.cond (b := _) e31 (fun hc => ?_) (fun hc => ?_)
 ·refine AW.seq_k fun K3 h3 => ?_
  all_goals refine AW.reg0 ?_
  all_goals (refine S.g rfl rfl fun Y Z => ?_; simp only [zz, reduceIte, Nat.reduceEqDiff, Nat.reduceAdd]; refine Z _ _ ?_; clear Z Y)
  all_goals refine S.nil ?_
  all_goals simp only [ze, reduceIte, Nat.reduceEqDiff, Nat.reduceLeDiff, Nat.reduceAdd]
  all_goals apply_assumption
  refine AW.ret ?_
  all_goals simp only [zs, reduceIte, Nat.reduceEqDiff, Nat.reduceLeDiff, Nat.reduceAdd]
  have := of_decide_eq_true hc
  simp [evErr, this]
 ·refine AW.skip ?_
  all_goals simp only [zs, reduceIte, Nat.reduceEqDiff, Nat.reduceLeDiff, Nat.reduceAdd]
  all_goals apply_assumption
  refine AW.seq_k fun K4 h4 => ?_
  all_goals refine AW.reg0 ?_
  all_goals iterate 2 (refine S.g rfl rfl fun Y Z => ?_; simp only [zz, reduceIte, Nat.reduceEqDiff, Nat.reduceLeDiff, Nat.reduceAdd, of36_3, ok34, sz34, ag34, e1, l1]; refine Z _ _ ?_; clear Z Y)
  all_goals (refine S.g rfl rfl fun Y Z => ?_; simp only [zz, reduceIte, Nat.reduceEqDiff, Nat.reduceLeDiff, Nat.reduceAdd, e1, l1]; refine PCalls.eqto (check_attrs _ (by assumption)) ?_ <;> (refine Z _ _ ?_; clear Z Y))
  all_goals (refine S.g rfl rfl fun Y Z => ?_; simp only [zz, reduceIte, Nat.reduceEqDiff, Nat.reduceAdd, e1, l1]; refine Z _ _ ?_; clear Z Y)
  all_goals refine S.nil ?_
  all_goals simp only [ze, reduceIte, Nat.reduceEqDiff, Nat.reduceLeDiff, Nat.reduceAdd, e1, l1]
  all_goals apply_assumption
  refine AW.ret ?_
  all_goals simp only [zs, reduceIte, Nat.reduceEqDiff, Nat.reduceLeDiff, Nat.reduceAdd]
  have := of_decide_eq_false hc
  simp only [evErr, if_neg this]
end Go.Abs.M
namespace Go.Abs.M
open Go Go.Abs Go.Proofs
theorem eqA33 (d : Nat) (w : World) (x0 y0 x1 y1 : Int) :
  (Op.equalIn (d + 2) 33 (.agg #[.int .i64 x0, .int .i64 x1]) (.agg #[.int .i64 y0, .int .i64 y1])).run Tryz.prog w = .ok (x0 == y0 && (x1 == y1)) w := by
 refine eqF_of Tryz.underlying33 (by kernel_rfl) ?_
 refine eqF_more (by rfl) (by go_simp; rfl) (by go_simp; rfl) (by go_simp) ?_
 exact eqF_one (by rfl) (by go_simp; rfl) (by go_simp; rfl) (by go_simp)
theorem eqA40 (d : Nat) (w : World) (x0 y0 : Int) (x1 y1 : Int) (x2 y2 : ByteArray) :
  (Op.equalIn (d + 2) 40 (.agg #[.int .i64 x0, .int .i64 x1, .string x2]) (.agg #[.int .i64 y0, .int .i64 y1, .string y2])).run Tryz.prog w = .ok (x0 == y0 && (x1 == y1 && (x2.toList == y2.toList))) w := by
 refine eqF_of Tryz.underlying40 (by kernel_rfl) ?_
 refine eqF_more (by rfl) (by go_simp; rfl) (by go_simp; rfl) (by go_simp) ?_
 refine eqF_more (by rfl) (by go_simp; rfl) (by go_simp; rfl) (by go_simp) ?_
 exact eqF_one (by rfl) (by go_simp; rfl) (by go_simp; rfl) (by go_simp)
theorem eqA42 (d : Nat) (w : World) (x0 y0 : ByteArray) (x1 y1 : Int) (x2 y2 : Int) (x3 y3 : ByteArray) :
  (Op.equalIn (d + 3) 42 (.agg #[.string x0, .int .i64 x1, .int .i64 x2, .string x3]) (.agg #[.string y0, .int .i64 y1, .int .i64 y2, .string y3])).run Tryz.prog w = .ok (x0.toList == y0.toList && ((x1 == y1 && (x2 == y2 && (x3.toList == y3.toList))))) w := by
 refine eqF_of Tryz.underlying42 (by kernel_rfl) ?_
 refine eqF_more (by rfl) (by go_simp; rfl) (by go_simp; rfl) (by go_simp) ?_
 exact eqF_one (by rfl) (by go_simp) (by go_simp) (eqA40 (d + 0) w _ _ _ _ _ _)
theorem fitI {ks : List SK} {xs : List Value} (h : fitsAll (.int .i64 :: ks) xs = true) : ∃ (a : Int) (ys : List Value), xs = .int .i64 a :: ys ∧ fitsAll ks ys = true := by
  match xs, h with
  | .int k a :: ys, h =>
    simp only [fitsAll, SK.fits, Bool.and_eq_true, beq_iff_eq] at h
    obtain ⟨h1, h2⟩ := h
    exact ⟨a, ys, by rw [← h1], h2⟩
theorem fitS {ks : List SK} {xs : List Value} (h : fitsAll (.str :: ks) xs = true) : ∃ (a : ByteArray) (ys : List Value), xs = .string a :: ys ∧ fitsAll ks ys = true := by
  match xs, h with
  | .string a :: ys, h =>
    simp only [fitsAll, SK.fits, Bool.and_eq_true, true_and] at h
    exact ⟨a, ys, rfl, h⟩
theorem fit0 {xs : List Value} (h : fitsAll [] xs = true) : xs = [] := by
 match xs, h with
 | [], _ => rfl
theorem eqt33 : EqT Tryz.prog 33 [.int .i64, .int .i64] := by
 refine ⟨fun op x y xs ys w => run_guard_agg (by kernel_rfl) xs ys w, fun xs ys hx hy w => ?_⟩
 obtain ⟨a0, xs1, rfl, p1⟩ := fitI hx
 obtain ⟨a1, xs2, rfl, p2⟩ := fitI p1
 obtain ⟨b0, ys3, rfl, q3⟩ := fitI hy
 obtain ⟨b1, ys4, rfl, q4⟩ := fitI q3
 rw [fit0 p2, fit0 q4]
 have := eqA33 9998 w a0 b0 a1 b1
 simpa [Op.equal, Op.maxDepth, cellsEq, cellEq] using this
theorem eqt42 : EqT Tryz.prog 42 [.str, .int .i64, .int .i64, .str] := by
 refine ⟨fun op x y xs ys w => run_guard_agg (by kernel_rfl) xs ys w, fun xs ys hx hy w => ?_⟩
 obtain ⟨a0, xs1, rfl, p1⟩ := fitS hx
 obtain ⟨a1, xs2, rfl, p2⟩ := fitI p1
 obtain ⟨a2, xs3, rfl, p3⟩ := fitI p2
 obtain ⟨a3, xs4, rfl, p4⟩ := fitS p3
 obtain ⟨b0, ys5, rfl, q5⟩ := fitS hy
 obtain ⟨b1, ys6, rfl, q6⟩ := fitI q5
 obtain ⟨b2, ys7, rfl, q7⟩ := fitI q6
 obtain ⟨b3, ys8, rfl, q8⟩ := fitS q7
 rw [fit0 p4, fit0 q8]
 have := eqA42 9997 w a0 b0 a1 b1 a2 b2 a3 b3
 simpa [Op.equal, Op.maxDepth, cellsEq, cellEq] using this
theorem key33 : KeyT Tryz.prog 33 (fitsK [.int .i64, .int .i64]) := by
 refine KeyT.struct Tryz.underlying33 eqt33 (fun em xs w hx => ?_)
 obtain ⟨a0, xs1, rfl, p1⟩ := fitI hx
 obtain ⟨a1, xs2, rfl, p2⟩ := fitI p1
 rw [fit0 p2]
 unfold Instr.checkKey
 rw [Sem.run_bind, run_underlying Tryz.underlying33]
 simp only [Result.andThen_ok]
 go_simp
 have h1 : ∀ (t : TypeId) (x : Int), Tryz.prog.underlying t = some (.int .i64) → (Instr.checkKey em 9999 t (.int .i64 x)).run Tryz.prog w = .ok () w := fun t x h => MapKept.run_checkKey (w := w) (k := .int .i64 x) h (by simp [MapKept.IsKey]) em 9998
 rw [h1 3 a0 Tryz.underlying3, Result.andThen_ok, h1 2 a1 Tryz.underlying2]
def eqTab (t : TypeId) : Option (List SK) := if t = 33 then some [.int .i64, .int .i64] else if t = 42 then some [.str, .int .i64, .int .i64, .str] else none
theorem eqTab_ok : ∀ t ks, eqTab t = some ks → EqT Tryz.prog t ks := fun t ks h => by
 unfold eqTab at h
 split at h
 ·rename_i e; subst e; injection h with h; subst h; exact eqt33
 ·split at h
  ·rename_i e; subst e; injection h with h; subst h; exact eqt42
  ·cases h
theorem eqk33 : eqTab 33 = some [.int .i64, .int .i64] := rfl
theorem eqk42 : eqTab 42 = some [.str, .int .i64, .int .i64, .str] := rfl
end Go.Abs.M
namespace Go.Abs.M
open Go Go.Abs Go.Proofs
set_option maxRecDepth 20000
set_option linter.unusedSimpArgs false
set_option linter.unusedVariables false
structure Bd where
  var : ByteArray
  ev : Ev
def encBd (b : Bd) : List V := [.c (.string b.var), .c (.int .i64 b.ev.src), .c (.int .i64 b.ev.seq), .c (.int .i64 b.ev.time), .c (.string b.ev.type), .sl (b.ev.attrs.map encAttr)]
def named (n : Nat) (b : Bd) : Bool := isName b.var || decide (b.var.size = 0 ∧ n = 1)
def partFrom (n : Nat) : Option ByteArray → List (Int × Int) → List Bd → Int
  | _, _, [] => 0
  | p, sn, b :: l => if named n b = false ∨ p.any (leS b.var ·) = true ∨ (b.ev.src, b.ev.seq) ∈ sn then 100 else if evErr b.ev ≠ 0 then evErr b.ev else partFrom n (some b.var) (sn ++ [(b.ev.src, b.ev.seq)]) l
def partErr (l : List Bd) : Int := if 12 < l.length then 100 else partFrom l.length none [] l
structure okB (b : Bd) : Prop where
  var : b.var.size < 4611686018427387904
  ev : okE b.ev
def okP (l : List Bd) : Prop := ∀ b ∈ l, okB b
def ent (p : Int × Int) : V := .tup [.c (.agg ⟨[.int .i64 p.1, .int .i64 p.2]⟩), .c (.bool true)]
theorem entOk_seen (l : List (Int × Int)) : entOk (fitsK [.int .i64, .int .i64]) (l.map ent) = true := by
 induction l with
 | nil => rfl
 | cons p l ih => simp only [List.map_cons, ent, entOk, ih]; rfl
theorem entV_seen (l : List (Int × Int)) (a b : Int) (i : Nat) :
    ((a, b) ∉ l ∧ entV (l.map ent) (.agg ⟨[.int .i64 a, .int .i64 b]⟩) i = none) ∨ ((a, b) ∈ l ∧ ∃ j, entV (l.map ent) (.agg ⟨[.int .i64 a, .int .i64 b]⟩) i = some (j, .c (.bool true))) := by
  induction l generalizing i with
  | nil => exact .inl ⟨by simp, rfl⟩
  | cons p l ih =>
    simp only [List.map_cons, ent, entV, sameK, cellsEq, cellEq, Bool.and_true]
    by_cases h : a = p.1 ∧ b = p.2
    · refine .inr ⟨by simp [Prod.ext_iff, h], i, ?_⟩
      simp [h.1, h.2]
    · have hb : (a == p.1 && b == p.2) = false := by
        cases h1 : (a == p.1 && b == p.2)
        · rfl
        · exact absurd (by simpa using h1) h
      rw [if_neg (by rw [hb]; simp)]
      have hne : (a, b) ≠ p := fun e => h (by rw [← e]; exact ⟨rfl, rfl⟩)
      rcases ih (i + 1) with ⟨h1, h2⟩ | ⟨h1, h2⟩
      · exact .inl ⟨by simp [h1, hne], h2⟩
      · exact .inr ⟨List.mem_cons_of_mem _ h1, h2⟩
theorem check_part (l : List Bd) (hl : okP l) : PCalls Tryz.prog 21 [.agg [.sl (l.map encBd)]] (fun r => r = .c (.int .i64 (partErr l))) := by
 refine PCalls.intro Tryz.call21 Tryz.func21 rfl Tryz.ntmps21 Tryz.results21 (by simp) ?_
 refine AW.seq_k fun K1 h1 => ?_
 all_goals refine AW.reg0 ?_
 all_goals iterate 2 (refine S.g rfl rfl fun Y Z => ?_; simp only [zz, reduceIte, Nat.reduceEqDiff, Nat.reduceLT, Nat.reduceLeDiff, Nat.reduceAdd, reduceCtorEq, Nat.reduceMul, ok24, sz24, ag24]; refine Z _ _ ?_; clear Z Y)
 all_goals refine S.nil ?_
 all_goals simp only [ze, reduceIte, Nat.reduceEqDiff, Nat.reduceLT, Nat.reduceLeDiff, Nat.reduceAdd, reduceCtorEq, Nat.reduceMul]
 all_goals apply_assumption
 refine AW.seq_k fun K2 h2 => ?_
 all_goals refine AW.reg0 ?_
 all_goals iterate 4 (refine S.g rfl rfl fun Y Z => ?_; simp only [zz, reduceIte, Nat.reduceEqDiff, Nat.reduceLT, Nat.reduceLeDiff, Nat.reduceAdd, reduceCtorEq, Nat.reduceMul, of24_0, ok22, sz22, ag22, sl22, el22, ok38, sz38, ag38]; refine Z _ _ ?_; clear Z Y)
 all_goals refine S.nil ?_
 all_goals simp only [ze, reduceIte, Nat.reduceEqDiff, Nat.reduceLT, Nat.reduceLeDiff, Nat.reduceAdd, reduceCtorEq, Nat.reduceMul]
 all_goals apply_assumption
 refine AW.seq_k fun K3 h3 => ?_
 refine AW.seq_k fun K4 h4 => ?_
 all_goals refine AW.reg0 ?_
 all_goals iterate 2 (refine S.g rfl rfl fun Y Z => ?_; simp only [zz, reduceIte, Nat.reduceEqDiff, Nat.reduceAdd]; refine Z _ _ ?_; clear Z Y)
 all_goals refine S.nil ?_
 all_goals simp only [ze, reduceIte, Nat.reduceEqDiff, Nat.reduceLT, Nat.reduceLeDiff, Nat.reduceAdd, reduceCtorEq, Nat.reduceMul]
 all_goals apply_assumption
 refine AW.cond (b := decide ((l.length : Int) > 12)) (by simp [ev]) (fun hc => ?_) (fun hc => ?_)
 ·refine AW.seq_k fun K5 h5 => ?_
  all_goals refine AW.reg0 ?_
  all_goals (refine S.g rfl rfl fun Y Z => ?_; simp only [zz, reduceIte, Nat.reduceEqDiff, Nat.reduceAdd]; refine Z _ _ ?_; clear Z Y)
  all_goals refine S.nil ?_
  all_goals simp only [ze, reduceIte, Nat.reduceEqDiff, Nat.reduceLT, Nat.reduceLeDiff, Nat.reduceAdd, reduceCtorEq, Nat.reduceMul]
  all_goals apply_assumption
  refine AW.ret ?_
  all_goals simp only [zs, reduceIte, Nat.reduceEqDiff, Nat.reduceLT, Nat.reduceLeDiff, Nat.reduceAdd, reduceCtorEq, Nat.reduceMul]
  have : 12 < l.length := by have := of_decide_eq_true hc; omega
  simp [partErr, this]
 ·refine AW.skip ?_
  all_goals simp only [zs, reduceIte, Nat.reduceEqDiff, Nat.reduceLT, Nat.reduceLeDiff, Nat.reduceAdd, reduceCtorEq, Nat.reduceMul]
  all_goals apply_assumption
  have hlen : l.length ≤ 12 := by have := of_decide_eq_false hc; omega
  refine AW.seq_k fun K6 h6 => ?_
  all_goals refine AW.reg0 ?_
  all_goals (refine S.g rfl rfl fun Y Z => ?_; simp only [zz, reduceIte, Nat.reduceEqDiff, Nat.reduceLT, Nat.reduceLeDiff, Nat.reduceAdd, reduceCtorEq, Nat.reduceMul]; intro g hg0 <;> (refine Z _ _ ?_; clear Z Y))
  all_goals (refine S.g rfl rfl fun Y Z => ?_; simp only [zz, reduceIte, Nat.reduceEqDiff, Nat.reduceAdd]; refine Z _ _ ?_; clear Z Y)
  all_goals refine S.nil ?_
  all_goals simp only [ze, reduceIte, Nat.reduceEqDiff, Nat.reduceLT, Nat.reduceLeDiff, Nat.reduceAdd, reduceCtorEq, Nat.reduceMul]
  all_goals apply_assumption
  refine AW.seq_k fun K7 h7 => ?_
  refine AW.seq_k fun K8 h8 => ?_
  all_goals refine AW.reg0 ?_
  all_goals iterate 4 (refine S.g rfl rfl fun Y Z => ?_; simp only [zz, reduceIte, Nat.reduceEqDiff, Nat.reduceLT, Nat.reduceLeDiff, Nat.reduceAdd, reduceCtorEq, Nat.reduceMul, of24_0, ok22, sz22, ag22, sl22, el22, ok38, sz38, ag38]; refine Z _ _ ?_; clear Z Y)
  all_goals refine S.nil ?_
  all_goals simp only [ze, reduceIte, Nat.reduceEqDiff, Nat.reduceLT, Nat.reduceLeDiff, Nat.reduceAdd, reduceCtorEq, Nat.reduceMul]
  all_goals apply_assumption
  refine AW.block ?_   -- 0
  refine AW.loop (fun m s σ => ∃ i sn, m + i = l.length ∧ σ = Hp.empty.setObj g (some [.tup (sn.map ent)]) ∧ s.t 1 = .lp 1 0 ∧ s.l 1 = some [.sl (l.map encBd)] ∧ s.t 3 = .c (.int .i64 l.length) ∧ s.t 4 = .c (.map (some g)) ∧
   s.t 16 = .sl (l.map encBd) ∧ s.t 17 = .c (.int .i64 l.length) ∧ s.t 18 = .c (.int .i64 (i : Nat)) ∧
   partFrom l.length none [] l = partFrom l.length (if i = 0 then none else (l[i-1]?).map (·.var)) sn (l.drop i)) l.length ?_ ?_
  ·refine ⟨0, [], by simp, ?_⟩
   all_goals simp only [zs, reduceIte, Nat.reduceEqDiff, Nat.reduceLT, Nat.reduceLeDiff, Nat.reduceAdd, reduceCtorEq, Nat.reduceMul]
   simp
  rintro m s σ ⟨i, sn, hm, rfl, e1, l1, e3, e4, e16, e17, e18, hp⟩
  refine AW.seq_k fun K9 h9 => ?_
  all_goals refine AW.reg0 ?_
  all_goals (refine S.g rfl rfl fun Y Z => ?_; simp only [zz, reduceIte, Nat.reduceEqDiff, Nat.reduceAdd, e17, e18]; refine Z _ _ ?_; clear Z Y)
  all_goals refine S.nil ?_
  all_goals simp only [ze, reduceIte, Nat.reduceEqDiff, Nat.reduceLT, Nat.reduceLeDiff, Nat.reduceAdd, reduceCtorEq, Nat.reduceMul, e17, e18]
  all_goals apply_assumption
  refine AW.seq_k fun K10 h10 => ?_
  refine AW.cond (b := decide (i < l.length)) (by simp [ev]) (fun hc => ?_) (fun hc => ?_)
  ·refine AW.skip ?_
   all_goals simp only [zs, reduceIte, Nat.reduceEqDiff, Nat.reduceLT, Nat.reduceLeDiff, Nat.reduceAdd, reduceCtorEq, Nat.reduceMul]
   all_goals apply_assumption
   have hi : i < l.length := by simpa using hc
   have hg := getD_map (f := encBd) hi
   have hd : l.drop i = l[i] :: l.drop (i + 1) := List.drop_eq_getElem_cons hi
   have hmem := hl _ (List.getElem_mem hi)
   generalize ha : l[i] = a at hg hd hmem
   have hn1 := hmem.var
   have hn2 := hmem.ev
   refine AW.seq_k fun K11 h11 => ?_
   refine AW.block ?_   -- 1
   refine AW.seq_k fun K12 h12 => ?_
   all_goals refine AW.reg0 ?_
   all_goals iterate 6 (refine S.g rfl rfl fun Y Z => ?_; simp only [zz, reduceIte, Nat.reduceEqDiff, Nat.reduceLT, Nat.reduceLeDiff, Nat.reduceAdd, reduceCtorEq, Nat.reduceMul, sl22, el22, ok38, sz38, ag38, zt38, e16, e18, hi, hg, encBd, e1]; refine Z _ _ ?_; clear Z Y)
   all_goals refine S.nil ?_
   all_goals simp only [ze, reduceIte, Nat.reduceEqDiff, Nat.reduceLT, Nat.reduceLeDiff, Nat.reduceAdd, reduceCtorEq, Nat.reduceMul, e16, e18, hi, hg, encBd, e1]
   all_goals apply_assumption
   refine AW.seq_j (fun s' σ' => σ' = Hp.empty.setObj g (some [.tup (sn.map ent)]) ∧ s'.t 1 = .lp 1 0 ∧ s'.l 1 = some [.sl (l.map encBd)] ∧ s'.t 3 = .c (.int .i64 l.length) ∧ s'.t 4 = .c (.map (some g)) ∧
    s'.t 16 = .sl (l.map encBd) ∧ s'.t 17 = .c (.int .i64 l.length) ∧ s'.t 18 = .c (.int .i64 i) ∧ s'.t 6 = .lp 6 0 ∧ s'.l 6 = some (encBd a) ∧ s'.t 5 = .c (.int .i64 i) ∧ s'.t 7 = .c (.bool (named l.length a))) ?_ ?_
   ·skip
    all_goals refine AW.reg0 ?_
    all_goals iterate 2 (refine S.g rfl rfl fun Y Z => ?_; simp only [zz, reduceIte, Nat.reduceEqDiff, Nat.reduceLT, Nat.reduceLeDiff, Nat.reduceAdd, reduceCtorEq, Nat.reduceMul, of38_0, ok9, sz9, ag9, e1, e3, l1, e4, e16, e17, e18]; refine Z _ _ ?_; clear Z Y)
    all_goals (refine S.g rfl rfl fun Y Z => ?_; simp only [zz, reduceIte, Nat.reduceEqDiff, Nat.reduceLT, Nat.reduceLeDiff, Nat.reduceAdd, reduceCtorEq, Nat.reduceMul, e1, e3, l1, e4, e16, e17, e18]; refine PCalls.eqto (name_spec _ (by assumption)) ?_; refine S.bool fun b a25 => ?_; cases b <;> (try (exfalso; first | exact Bool.noConfusion a25 | (have h := of_decide_eq_true a25; omega) | (have h := of_decide_eq_false a25; omega))) <;> (refine Z _ _ ?_; clear Z Y))
    all_goals (refine S.g rfl rfl fun Y Z => ?_; simp only [zz, reduceIte, Nat.reduceEqDiff, Nat.reduceAdd, e1, e3, l1, e4, e16, e17, e18]; refine Z _ _ ?_; clear Z Y)
    all_goals iterate 2 (first | (refine S.y rfl rfl rfl rfl fun Y Z => ?_; simp only [zz, reduceIte, Nat.reduceEqDiff, Nat.reduceLT, Nat.reduceLeDiff, Nat.reduceAdd, reduceCtorEq, Nat.reduceMul, of38_0, ok9, sz9, ag9, e1, e3, l1, e4, e16, e17, e18]; refine Z _ _ ?_; clear Z Y) | ((first | refine S.x rfl rfl rfl rfl fun Y Z => ?_ | refine S.u rfl rfl rfl rfl fun Y Z => ?_); simp only [ze, reduceIte, Nat.reduceEqDiff]; refine Z _ _ ?_; clear Z Y))
    all_goals (first | (refine S.y rfl rfl rfl rfl fun Y Z => ?_; simp only [zz, reduceIte, Nat.reduceEqDiff, Nat.reduceLT, Nat.reduceLeDiff, Nat.reduceAdd, reduceCtorEq, Nat.reduceMul, e1, e3, l1, e4, e16, e17, e18]; refine S.bool fun b a29 => ?_; cases b <;> (try (exfalso; first | exact Bool.noConfusion a29 | (have h := of_decide_eq_true a29; omega) | (have h := of_decide_eq_false a29; omega))) <;> (refine Z _ _ ?_; clear Z Y)) | ((first | refine S.x rfl rfl rfl rfl fun Y Z => ?_ | refine S.u rfl rfl rfl rfl fun Y Z => ?_); simp only [ze, reduceIte, Nat.reduceEqDiff]; refine Z _ _ ?_; clear Z Y))
    all_goals iterate 4 (first | (refine S.y rfl rfl rfl rfl fun Y Z => ?_; simp only [zz, reduceIte, Nat.reduceEqDiff, Nat.reduceAdd, e1, e3, l1, e4, e16, e17, e18]; refine Z _ _ ?_; clear Z Y) | ((first | refine S.x rfl rfl rfl rfl fun Y Z => ?_ | refine S.u rfl rfl rfl rfl fun Y Z => ?_); simp only [ze, reduceIte, Nat.reduceEqDiff]; refine Z _ _ ?_; clear Z Y))
    all_goals iterate 2 (refine S.g rfl rfl fun Y Z => ?_; simp only [zz, reduceIte, Nat.reduceEqDiff, Nat.reduceAdd, e1, e3, l1, e4, e16, e17, e18]; refine Z _ _ ?_; clear Z Y)
    all_goals refine S.nil ?_
    all_goals simp only [ze, reduceIte, Nat.reduceEqDiff, Nat.reduceLT, Nat.reduceLeDiff, Nat.reduceAdd, reduceCtorEq, Nat.reduceMul, e1, e3, l1, e4, e16, e17, e18]
    all_goals refine ⟨rfl, ?_⟩
    clear hp hd hmem hl
    all_goals (try simp only [beq_eq_false_iff_ne, decide_eq_true_eq, decide_eq_false_iff_not, beq_iff_eq, ne_eq, Bool.not_eq_true', Bool.not_eq_false', bne_iff_ne, bne_eq_false_iff_eq] at *)
    all_goals (try simp only [V.c.injEq, Value.bool.injEq, Value.int.injEq, true_and, named, a25])
    all_goals first | done | rfl | omega | ((rw [Bool.eq_iff_iff]; simp only [beq_eq_false_iff_ne, decide_eq_true_eq, decide_eq_false_iff_not, beq_iff_eq, ne_eq, Bool.not_eq_true', Bool.not_eq_false', bne_iff_ne, bne_eq_false_iff_eq, Bool.false_or, Bool.true_or, Bool.or_false, Bool.or_true, Bool.false_and, Bool.and_false, Bool.true_and, Bool.and_true, Bool.not_true, Bool.not_false, Bool.or_eq_false_iff, Bool.and_eq_false_iff, Bool.or_eq_true, Bool.and_eq_true, Bool.false_eq_true, Bool.true_eq_false, true_iff, iff_true, false_iff, iff_false]) <;> omega)
    all_goals simp_all
   rintro s1 σ1 ⟨rfl, f1, k1, f3, f4, f16, f17, f18, f6, k6, f5, f7⟩
   rw [encBd] at k6
   have hsn := entV_seen sn a.ev.src a.ev.seq 0
   have key : ∀ (q : Bool), q = decide (named l.length a = false ∨ (if i = 0 then none else (l[i-1]?).map (·.var)).any (leS a.var ·) = true ∨ (a.ev.src, a.ev.seq) ∈ sn) → q = q := fun _ _ => rfl
   refine AW.seq_j (fun s' σ' => σ' = Hp.empty.setObj g (some [.tup (sn.map ent)]) ∧ s'.t 1 = .lp 1 0 ∧ s'.l 1 = some [.sl (l.map encBd)] ∧ s'.t 3 = .c (.int .i64 l.length) ∧ s'.t 4 = .c (.map (some g)) ∧
    s'.t 16 = .sl (l.map encBd) ∧ s'.t 17 = .c (.int .i64 l.length) ∧ s'.t 18 = .c (.int .i64 i) ∧ s'.t 6 = .lp 6 0 ∧ s'.l 6 = some (encBd a) ∧
    named l.length a = true ∧ (if i = 0 then none else (l[i-1]?).map (·.var)).any (leS a.var ·) = false ∧ (a.ev.src, a.ev.seq) ∉ sn) ?_ ?_
   ·refine AW.seq_j (fun s' σ' => σ' = Hp.empty.setObj g (some [.tup (sn.map ent)]) ∧ s'.t 1 = .lp 1 0 ∧ s'.l 1 = some [.sl (l.map encBd)] ∧ s'.t 3 = .c (.int .i64 l.length) ∧ s'.t 4 = .c (.map (some g)) ∧
     s'.t 16 = .sl (l.map encBd) ∧ s'.t 17 = .c (.int .i64 l.length) ∧ s'.t 18 = .c (.int .i64 i) ∧ s'.t 6 = .lp 6 0 ∧ s'.l 6 = some (encBd a) ∧
     s'.t 59 = .c (.bool (decide (named l.length a = false ∨ (if i = 0 then none else (l[i-1]?).map (·.var)).any (leS a.var ·) = true ∨ (a.ev.src, a.ev.seq) ∈ sn)))) ?_ ?_
    ·clear hp hd hl hmem key
     generalize hnm : named l.length a = nm at f7 ⊢
     rcases hsn with ⟨hs1, hs2⟩ | ⟨hs1, jj, hs2⟩
     ·by_cases hi0 : i = 0
      ·have hpb : (if i = 0 then none else (l[i-1]?).map (·.var)).any (leS a.var ·) = false := by simp [hi0]
       rw [hpb]
       cases nm
       all_goals refine AW.draw (T := { sd := fun d => d == 1 || d == 6 }) (fun _ _ h => by cases h) mixedO [(0, 0), (1, 0), (2, 0), (3, 0), (4, 0), (5, 0), (6, 0), (8, 0), (10, 0), (11, 0), (7, 1), (9, 1), (12, 0), (13, 0), (14, 1), (15, 0), (16, 0), (17, 0), (18, 0), (19, 0), (20, 0), (21, 0), (22, 1), (23, 2), (24, 0)] rfl (by kernel_rfl) (by kernel_rfl) ?_
       all_goals iterate 3 (refine D.g rfl trivial rfl rfl fun Y Z => ?_; simp only [zz, reduceIte, Nat.reduceEqDiff, Nat.reduceAdd, f1, k1, f3, f4, f16, f17, f18, f6, k6, f5, f7, hs2]; refine Z _ _ ?_; clear Z Y)
       all_goals (first | (refine D.y rfl trivial rfl rfl rfl rfl fun Y Z => ?_; simp only [zz, reduceIte, Nat.reduceEqDiff, Nat.reduceAdd, f1, k1, f3, f4, f16, f17, f18, f6, k6, f5, f7, hs2]; refine Z _ _ ?_; clear Z Y) | ((first | refine D.x rfl (fun h => by cases h) rfl rfl rfl rfl fun Y Z => ?_ | refine D.u rfl (fun h => by cases h) rfl rfl rfl rfl fun Y Z => ?_); simp only [ze, reduceIte, Nat.reduceEqDiff]; refine Z _ _ ?_; clear Z Y))
       all_goals (first | (refine D.y rfl trivial rfl rfl rfl rfl fun Y Z => ?_; simp only [zz, reduceIte, Nat.reduceEqDiff, Nat.reduceLT, Nat.reduceLeDiff, Nat.reduceAdd, reduceCtorEq, Nat.reduceMul, f1, k1, f3, f4, f16, f17, f18, f6, k6, f5, f7, hs2]; refine S.bool fun b a39 => ?_; cases b <;> (try (exfalso; first | exact Bool.noConfusion a39 | (have h := of_decide_eq_true a39; omega) | (have h := of_decide_eq_false a39; omega))) <;> (refine Z _ _ ?_; clear Z Y)) | ((first | refine D.x rfl (fun h => by cases h) rfl rfl rfl rfl fun Y Z => ?_ | refine D.u rfl (fun h => by cases h) rfl rfl rfl rfl fun Y Z => ?_); simp only [ze, reduceIte, Nat.reduceEqDiff]; refine Z _ _ ?_; clear Z Y))
       all_goals iterate 5 (first | (refine D.y rfl trivial rfl rfl rfl rfl fun Y Z => ?_; simp only [zz, reduceIte, Nat.reduceEqDiff, Nat.reduceLT, Nat.reduceLeDiff, Nat.reduceAdd, reduceCtorEq, Nat.reduceMul, of38_0, of24_0, f1, k1, f3, f4, f16, f17, f18, f6, k6, f5, f7, hs2]; refine Z _ _ ?_; clear Z Y) | ((first | refine D.x rfl (fun h => by cases h) rfl rfl rfl rfl fun Y Z => ?_ | refine D.u rfl (fun h => by cases h) rfl rfl rfl rfl fun Y Z => ?_); simp only [ze, reduceIte, Nat.reduceEqDiff]; refine Z _ _ ?_; clear Z Y))
       all_goals iterate 2 (first | (refine D.y rfl (by first | rfl | (simp only [stC, ze, reduceIte, Nat.reduceEqDiff, f1, k1, f3, f4, f16, f17, f18, f6, k6, f5, f7, hs2]; done) | (simp only [stC, ze, reduceIte, Nat.reduceEqDiff, f1, k1, f3, f4, f16, f17, f18, f6, k6, f5, f7, hs2]; rfl)) rfl rfl rfl rfl fun Y Z => ?_; simp only [zz, reduceIte, Nat.reduceEqDiff, Nat.reduceLT, Nat.reduceLeDiff, Nat.reduceAdd, reduceCtorEq, Nat.reduceMul, ok9, sz9, ag9, ok22, sz22, ag22, f1, k1, f3, f4, f16, f17, f18, f6, k6, f5, f7, hs2]; refine Z _ _ ?_; clear Z Y) | ((first | refine D.x rfl (fun _ => rfl) rfl rfl rfl rfl fun Y Z => ?_ | refine D.u rfl (fun _ => rfl) rfl rfl rfl rfl fun Y Z => ?_); simp only [ze, reduceIte, Nat.reduceEqDiff]; refine Z _ _ ?_; clear Z Y))
       all_goals iterate 2 (first | (refine D.y rfl trivial rfl rfl rfl rfl fun Y Z => ?_; simp only [zz, reduceIte, Nat.reduceEqDiff, Nat.reduceLT, Nat.reduceLeDiff, Nat.reduceAdd, reduceCtorEq, Nat.reduceMul, sl22, el22, ok38, sz38, ag38, of38_0, f1, k1, f3, f4, f16, f17, f18, f6, k6, f5, f7, hs2]; refine Z _ _ ?_; clear Z Y) | ((first | refine D.x rfl (fun h => by cases h) rfl rfl rfl rfl fun Y Z => ?_ | refine D.u rfl (fun h => by cases h) rfl rfl rfl rfl fun Y Z => ?_); simp only [ze, reduceIte, Nat.reduceEqDiff]; refine Z _ _ ?_; clear Z Y))
       all_goals (first | (refine D.y rfl (by first | rfl | (simp only [stC, ze, reduceIte, Nat.reduceEqDiff, f1, k1, f3, f4, f16, f17, f18, f6, k6, f5, f7, hs2]; done) | (simp only [stC, ze, reduceIte, Nat.reduceEqDiff, f1, k1, f3, f4, f16, f17, f18, f6, k6, f5, f7, hs2]; rfl)) rfl rfl rfl rfl fun Y Z => ?_; simp only [zz, reduceIte, Nat.reduceEqDiff, Nat.reduceLT, Nat.reduceLeDiff, Nat.reduceAdd, reduceCtorEq, Nat.reduceMul, ok9, sz9, ag9, f1, k1, f3, f4, f16, f17, f18, f6, k6, f5, f7, hs2]; refine Z _ _ ?_; clear Z Y) | ((first | refine D.x rfl (fun _ => rfl) rfl rfl rfl rfl fun Y Z => ?_ | refine D.u rfl (fun _ => rfl) rfl rfl rfl rfl fun Y Z => ?_); simp only [ze, reduceIte, Nat.reduceEqDiff]; refine Z _ _ ?_; clear Z Y))
       all_goals (first | (refine D.y rfl trivial rfl rfl rfl rfl fun Y Z => ?_; simp only [zz, reduceIte, Nat.reduceEqDiff, Nat.reduceLT, Nat.reduceLeDiff, Nat.reduceAdd, reduceCtorEq, Nat.reduceMul, f1, k1, f3, f4, f16, f17, f18, f6, k6, f5, f7, hs2]; refine S.bool fun b a50 => ?_; cases b <;> (try (exfalso; first | exact Bool.noConfusion a50 | (have h := of_decide_eq_true a50; omega) | (have h := of_decide_eq_false a50; omega))) <;> (refine Z _ _ ?_; clear Z Y)) | ((first | refine D.x rfl (fun h => by cases h) rfl rfl rfl rfl fun Y Z => ?_ | refine D.u rfl (fun h => by cases h) rfl rfl rfl rfl fun Y Z => ?_); simp only [ze, reduceIte, Nat.reduceEqDiff]; refine Z _ _ ?_; clear Z Y))
       all_goals (first | (refine D.y rfl trivial rfl rfl rfl rfl fun Y Z => ?_; simp only [zz, reduceIte, Nat.reduceEqDiff, Nat.reduceAdd, f1, k1, f3, f4, f16, f17, f18, f6, k6, f5, f7, hs2]; refine Z _ _ ?_; clear Z Y) | ((first | refine D.x rfl (fun h => by cases h) rfl rfl rfl rfl fun Y Z => ?_ | refine D.u rfl (fun h => by cases h) rfl rfl rfl rfl fun Y Z => ?_); simp only [ze, reduceIte, Nat.reduceEqDiff]; refine Z _ _ ?_; clear Z Y))
       all_goals iterate 2 (refine D.g rfl trivial rfl rfl fun Y Z => ?_; simp only [zz, reduceIte, Nat.reduceEqDiff, Nat.reduceAdd, f1, k1, f3, f4, f16, f17, f18, f6, k6, f5, f7, hs2]; refine Z _ _ ?_; clear Z Y)
       all_goals iterate 3 (first | (refine D.y rfl trivial rfl rfl rfl rfl fun Y Z => ?_; simp only [zz, reduceIte, Nat.reduceEqDiff, Nat.reduceLT, Nat.reduceLeDiff, Nat.reduceAdd, reduceCtorEq, Nat.reduceMul, of38_1, of36_0, f1, k1, f3, f4, f16, f17, f18, f6, k6, f5, f7, hs2]; refine Z _ _ ?_; clear Z Y) | ((first | refine D.x rfl (fun h => by cases h) rfl rfl rfl rfl fun Y Z => ?_ | refine D.u rfl (fun h => by cases h) rfl rfl rfl rfl fun Y Z => ?_); simp only [ze, reduceIte, Nat.reduceEqDiff]; refine Z _ _ ?_; clear Z Y))
       all_goals (first | (refine D.y rfl (by first | rfl | (simp only [stC, ze, reduceIte, Nat.reduceEqDiff, f1, k1, f3, f4, f16, f17, f18, f6, k6, f5, f7, hs2]; done) | (simp only [stC, ze, reduceIte, Nat.reduceEqDiff, f1, k1, f3, f4, f16, f17, f18, f6, k6, f5, f7, hs2]; rfl)) rfl rfl rfl rfl fun Y Z => ?_; simp only [zz, reduceIte, Nat.reduceEqDiff, Nat.reduceLT, Nat.reduceLeDiff, Nat.reduceAdd, reduceCtorEq, Nat.reduceMul, ok33, sz33, ag33, f1, k1, f3, f4, f16, f17, f18, f6, k6, f5, f7, hs2]; refine Z _ _ ?_; clear Z Y) | ((first | refine D.x rfl (fun _ => rfl) rfl rfl rfl rfl fun Y Z => ?_ | refine D.u rfl (fun _ => rfl) rfl rfl rfl rfl fun Y Z => ?_); simp only [ze, reduceIte, Nat.reduceEqDiff]; refine Z _ _ ?_; clear Z Y))
       all_goals (first | (refine D.y rfl trivial rfl rfl rfl rfl fun Y Z => ?_; simp only [zn, reduceIte, Nat.reduceEqDiff, Nat.reduceLT, Nat.reduceLeDiff, Nat.reduceAdd, reduceCtorEq, Nat.reduceMul, f1, k1, f3, f4, f16, f17, f18, f6, k6, f5, f7, hs2]; refine ⟨_, _, _, Tryz.underlying87, key33, rfl, entOk_seen _, ?_⟩; (try simp only [zt4, ofC, Option.some.injEq, exists_eq_left', zz, reduceIte, Nat.reduceEqDiff, Nat.reduceLT, Nat.reduceLeDiff, Nat.reduceAdd, reduceCtorEq, Nat.reduceMul, f1, k1, f3, f4, f16, f17, f18, f6, k6, f5, f7, hs2]) <;> (refine Z _ _ ?_; clear Z Y)) | ((first | refine D.x rfl (fun h => by cases h) rfl rfl rfl rfl fun Y Z => ?_ | refine D.u rfl (fun h => by cases h) rfl rfl rfl rfl fun Y Z => ?_); simp only [ze, reduceIte, Nat.reduceEqDiff]; refine Z _ _ ?_; clear Z Y))
       all_goals (refine D.g rfl trivial rfl rfl fun Y Z => ?_; simp only [zz, reduceIte, Nat.reduceEqDiff, Nat.reduceAdd, f1, k1, f3, f4, f16, f17, f18, f6, k6, f5, f7, hs2]; refine Z _ _ ?_; clear Z Y)
       all_goals refine D.nil ?_
       all_goals simp only [ze, reduceIte, Nat.reduceEqDiff, Nat.reduceLT, Nat.reduceLeDiff, Nat.reduceAdd, reduceCtorEq, Nat.reduceMul, f1, k1, f3, f4, f16, f17, f18, f6, k6, f5, f7, hs2]
       all_goals (first | refine ⟨rfl, ?_⟩ | skip)
       all_goals simp [hs1]
      ·have hi1 : i - 1 < l.length := by omega
       have hpb : (if i = 0 then none else (l[i-1]?).map (·.var)).any (leS a.var ·) = leS a.var l[i-1].var := by simp [hi0, hi1]
       rw [hpb]
       have hg1 := getD_map (f := encBd) hi1
       have hw : IntKind.i64.wrap ((i : Int) - 1) = ((i - 1 : Nat) : Int) := by rw [wrap_small _ (by omega) (by omega)]; omega
       cases nm
       all_goals refine AW.draw (T := { sd := fun d => d == 1 || d == 6 }) (fun _ _ h => by cases h) mixedO [(0, 0), (1, 0), (2, 0), (3, 0), (4, 0), (5, 0), (6, 0), (8, 0), (10, 0), (11, 0), (7, 1), (9, 1), (12, 0), (13, 0), (14, 1), (15, 0), (16, 0), (17, 0), (18, 0), (19, 0), (20, 0), (21, 0), (22, 1), (23, 2), (24, 0)] rfl (by kernel_rfl) (by kernel_rfl) ?_
       all_goals iterate 3 (refine D.g rfl trivial rfl rfl fun Y Z => ?_; simp only [zz, reduceIte, Nat.reduceEqDiff, Nat.reduceAdd, f1, k1, f3, f4, f16, f17, f18, f6, k6, f5, f7, hs2, hi1, hg1, encBd, hw]; refine Z _ _ ?_; clear Z Y)
       all_goals (first | (refine D.y rfl trivial rfl rfl rfl rfl fun Y Z => ?_; simp only [zz, reduceIte, Nat.reduceEqDiff, Nat.reduceAdd, f1, k1, f3, f4, f16, f17, f18, f6, k6, f5, f7, hs2, hi1, hg1, encBd, hw]; refine Z _ _ ?_; clear Z Y) | ((first | refine D.x rfl (fun h => by cases h) rfl rfl rfl rfl fun Y Z => ?_ | refine D.u rfl (fun h => by cases h) rfl rfl rfl rfl fun Y Z => ?_); simp only [ze, reduceIte, Nat.reduceEqDiff]; refine Z _ _ ?_; clear Z Y))
       all_goals (first | (refine D.y rfl trivial rfl rfl rfl rfl fun Y Z => ?_; simp only [zz, reduceIte, Nat.reduceEqDiff, Nat.reduceLT, Nat.reduceLeDiff, Nat.reduceAdd, reduceCtorEq, Nat.reduceMul, f1, k1, f3, f4, f16, f17, f18, f6, k6, f5, f7, hs2, hi1, hg1, encBd, hw]; refine S.bool fun b a39 => ?_; cases b <;> (try (exfalso; first | exact Bool.noConfusion a39 | (have h := of_decide_eq_true a39; omega) | (have h := of_decide_eq_false a39; omega))) <;> (refine Z _ _ ?_; clear Z Y)) | ((first | refine D.x rfl (fun h => by cases h) rfl rfl rfl rfl fun Y Z => ?_ | refine D.u rfl (fun h => by cases h) rfl rfl rfl rfl fun Y Z => ?_); simp only [ze, reduceIte, Nat.reduceEqDiff]; refine Z _ _ ?_; clear Z Y))
       all_goals iterate 5 (first | (refine D.y rfl trivial rfl rfl rfl rfl fun Y Z => ?_; simp only [zz, reduceIte, Nat.reduceEqDiff, Nat.reduceLT, Nat.reduceLeDiff, Nat.reduceAdd, reduceCtorEq, Nat.reduceMul, of38_0, of24_0, f1, k1, f3, f4, f16, f17, f18, f6, k6, f5, f7, hs2, hi1, hg1, encBd, hw]; refine Z _ _ ?_; clear Z Y) | ((first | refine D.x rfl (fun h => by cases h) rfl rfl rfl rfl fun Y Z => ?_ | refine D.u rfl (fun h => by cases h) rfl rfl rfl rfl fun Y Z => ?_); simp only [ze, reduceIte, Nat.reduceEqDiff]; refine Z _ _ ?_; clear Z Y))
       all_goals iterate 2 (first | (refine D.y rfl (by first | rfl | (simp only [stC, ze, reduceIte, Nat.reduceEqDiff, f1, k1, f3, f4, f16, f17, f18, f6, k6, f5, f7, hs2, hi1, hg1, encBd, hw]; done) | (simp only [stC, ze, reduceIte, Nat.reduceEqDiff, f1, k1, f3, f4, f16, f17, f18, f6, k6, f5, f7, hs2, hi1, hg1, encBd, hw]; rfl)) rfl rfl rfl rfl fun Y Z => ?_; simp only [zz, reduceIte, Nat.reduceEqDiff, Nat.reduceLT, Nat.reduceLeDiff, Nat.reduceAdd, reduceCtorEq, Nat.reduceMul, ok9, sz9, ag9, ok22, sz22, ag22, f1, k1, f3, f4, f16, f17, f18, f6, k6, f5, f7, hs2, hi1, hg1, encBd, hw]; refine Z _ _ ?_; clear Z Y) | ((first | refine D.x rfl (fun _ => rfl) rfl rfl rfl rfl fun Y Z => ?_ | refine D.u rfl (fun _ => rfl) rfl rfl rfl rfl fun Y Z => ?_); simp only [ze, reduceIte, Nat.reduceEqDiff]; refine Z _ _ ?_; clear Z Y))
       all_goals iterate 2 (first | (refine D.y rfl trivial rfl rfl rfl rfl fun Y Z => ?_; simp only [zz, reduceIte, Nat.reduceEqDiff, Nat.reduceLT, Nat.reduceLeDiff, Nat.reduceAdd, reduceCtorEq, Nat.reduceMul, sl22, el22, ok38, sz38, ag38, of38_0, f1, k1, f3, f4, f16, f17, f18, f6, k6, f5, f7, hs2, hi1, hg1, encBd, hw]; refine Z _ _ ?_; clear Z Y) | ((first | refine D.x rfl (fun h => by cases h) rfl rfl rfl rfl fun Y Z => ?_ | refine D.u rfl (fun h => by cases h) rfl rfl rfl rfl fun Y Z => ?_); simp only [ze, reduceIte, Nat.reduceEqDiff]; refine Z _ _ ?_; clear Z Y))
       all_goals (first | (refine D.y rfl (by first | rfl | (simp only [stC, ze, reduceIte, Nat.reduceEqDiff, f1, k1, f3, f4, f16, f17, f18, f6, k6, f5, f7, hs2, hi1, hg1, encBd, hw]; done) | (simp only [stC, ze, reduceIte, Nat.reduceEqDiff, f1, k1, f3, f4, f16, f17, f18, f6, k6, f5, f7, hs2, hi1, hg1, encBd, hw]; rfl)) rfl rfl rfl rfl fun Y Z => ?_; simp only [zz, reduceIte, Nat.reduceEqDiff, Nat.reduceLT, Nat.reduceLeDiff, Nat.reduceAdd, reduceCtorEq, Nat.reduceMul, ok9, sz9, ag9, f1, k1, f3, f4, f16, f17, f18, f6, k6, f5, f7, hs2, hi1, hg1, encBd, hw]; refine Z _ _ ?_; clear Z Y) | ((first | refine D.x rfl (fun _ => rfl) rfl rfl rfl rfl fun Y Z => ?_ | refine D.u rfl (fun _ => rfl) rfl rfl rfl rfl fun Y Z => ?_); simp only [ze, reduceIte, Nat.reduceEqDiff]; refine Z _ _ ?_; clear Z Y))
       all_goals (first | (refine D.y rfl trivial rfl rfl rfl rfl fun Y Z => ?_; simp only [zz, reduceIte, Nat.reduceEqDiff, Nat.reduceLT, Nat.reduceLeDiff, Nat.reduceAdd, reduceCtorEq, Nat.reduceMul, f1, k1, f3, f4, f16, f17, f18, f6, k6, f5, f7, hs2, hi1, hg1, encBd, hw]; refine S.bool fun b a50 => ?_; cases b <;> (try (exfalso; first | exact Bool.noConfusion a50 | (have h := of_decide_eq_true a50; omega) | (have h := of_decide_eq_false a50; omega))) <;> (refine Z _ _ ?_; clear Z Y)) | ((first | refine D.x rfl (fun h => by cases h) rfl rfl rfl rfl fun Y Z => ?_ | refine D.u rfl (fun h => by cases h) rfl rfl rfl rfl fun Y Z => ?_); simp only [ze, reduceIte, Nat.reduceEqDiff]; refine Z _ _ ?_; clear Z Y))
       all_goals (first | (refine D.y rfl trivial rfl rfl rfl rfl fun Y Z => ?_; simp only [zz, reduceIte, Nat.reduceEqDiff, Nat.reduceAdd, f1, k1, f3, f4, f16, f17, f18, f6, k6, f5, f7, hs2, hi1, hg1, encBd, hw]; refine Z _ _ ?_; clear Z Y) | ((first | refine D.x rfl (fun h => by cases h) rfl rfl rfl rfl fun Y Z => ?_ | refine D.u rfl (fun h => by cases h) rfl rfl rfl rfl fun Y Z => ?_); simp only [ze, reduceIte, Nat.reduceEqDiff]; refine Z _ _ ?_; clear Z Y))
       all_goals iterate 2 (refine D.g rfl trivial rfl rfl fun Y Z => ?_; simp only [zz, reduceIte, Nat.reduceEqDiff, Nat.reduceAdd, f1, k1, f3, f4, f16, f17, f18, f6, k6, f5, f7, hs2, hi1, hg1, encBd, hw]; refine Z _ _ ?_; clear Z Y)
       all_goals iterate 3 (first | (refine D.y rfl trivial rfl rfl rfl rfl fun Y Z => ?_; simp only [zz, reduceIte, Nat.reduceEqDiff, Nat.reduceLT, Nat.reduceLeDiff, Nat.reduceAdd, reduceCtorEq, Nat.reduceMul, of38_1, of36_0, f1, k1, f3, f4, f16, f17, f18, f6, k6, f5, f7, hs2, hi1, hg1, encBd, hw]; refine Z _ _ ?_; clear Z Y) | ((first | refine D.x rfl (fun h => by cases h) rfl rfl rfl rfl fun Y Z => ?_ | refine D.u rfl (fun h => by cases h) rfl rfl rfl rfl fun Y Z => ?_); simp only [ze, reduceIte, Nat.reduceEqDiff]; refine Z _ _ ?_; clear Z Y))
       all_goals (first | (refine D.y rfl (by first | rfl | (simp only [stC, ze, reduceIte, Nat.reduceEqDiff, f1, k1, f3, f4, f16, f17, f18, f6, k6, f5, f7, hs2, hi1, hg1, encBd, hw]; done) | (simp only [stC, ze, reduceIte, Nat.reduceEqDiff, f1, k1, f3, f4, f16, f17, f18, f6, k6, f5, f7, hs2, hi1, hg1, encBd, hw]; rfl)) rfl rfl rfl rfl fun Y Z => ?_; simp only [zz, reduceIte, Nat.reduceEqDiff, Nat.reduceLT, Nat.reduceLeDiff, Nat.reduceAdd, reduceCtorEq, Nat.reduceMul, ok33, sz33, ag33, f1, k1, f3, f4, f16, f17, f18, f6, k6, f5, f7, hs2, hi1, hg1, encBd, hw]; refine Z _ _ ?_; clear Z Y) | ((first | refine D.x rfl (fun _ => rfl) rfl rfl rfl rfl fun Y Z => ?_ | refine D.u rfl (fun _ => rfl) rfl rfl rfl rfl fun Y Z => ?_); simp only [ze, reduceIte, Nat.reduceEqDiff]; refine Z _ _ ?_; clear Z Y))
       all_goals (first | (refine D.y rfl trivial rfl rfl rfl rfl fun Y Z => ?_; simp only [zn, reduceIte, Nat.reduceEqDiff, Nat.reduceLT, Nat.reduceLeDiff, Nat.reduceAdd, reduceCtorEq, Nat.reduceMul, f1, k1, f3, f4, f16, f17, f18, f6, k6, f5, f7, hs2, hi1, hg1, encBd, hw]; refine ⟨_, _, _, Tryz.underlying87, key33, rfl, entOk_seen _, ?_⟩; (try simp only [zt4, ofC, Option.some.injEq, exists_eq_left', zz, reduceIte, Nat.reduceEqDiff, Nat.reduceLT, Nat.reduceLeDiff, Nat.reduceAdd, reduceCtorEq, Nat.reduceMul, f1, k1, f3, f4, f16, f17, f18, f6, k6, f5, f7, hs2, hi1, hg1, encBd, hw]) <;> (refine Z _ _ ?_; clear Z Y)) | ((first | refine D.x rfl (fun h => by cases h) rfl rfl rfl rfl fun Y Z => ?_ | refine D.u rfl (fun h => by cases h) rfl rfl rfl rfl fun Y Z => ?_); simp only [ze, reduceIte, Nat.reduceEqDiff]; refine Z _ _ ?_; clear Z Y))
       all_goals (refine D.g rfl trivial rfl rfl fun Y Z => ?_; simp only [zz, reduceIte, Nat.reduceEqDiff, Nat.reduceAdd, f1, k1, f3, f4, f16, f17, f18, f6, k6, f5, f7, hs2, hi1, hg1, encBd, hw]; refine Z _ _ ?_; clear Z Y)
       all_goals refine D.nil ?_
       all_goals simp only [ze, reduceIte, Nat.reduceEqDiff, Nat.reduceLT, Nat.reduceLeDiff, Nat.reduceAdd, reduceCtorEq, Nat.reduceMul, f1, k1, f3, f4, f16, f17, f18, f6, k6, f5, f7, hs2, hi1, hg1, encBd, hw]
       all_goals (first | refine ⟨rfl, ?_⟩ | skip)
       all_goals (try unfold leS)
       all_goals (first | rw [a50] | skip)
       all_goals simp [hs1]
     ·by_cases hi0 : i = 0
      ·have hpb : (if i = 0 then none else (l[i-1]?).map (·.var)).any (leS a.var ·) = false := by simp [hi0]
       rw [hpb]
       cases nm
       all_goals refine AW.draw (T := { sd := fun d => d == 1 || d == 6 }) (fun _ _ h => by cases h) mixedO [(0, 0), (1, 0), (2, 0), (3, 0), (4, 0), (5, 0), (6, 0), (8, 0), (10, 0), (11, 0), (7, 1), (9, 1), (12, 0), (13, 0), (14, 1), (15, 0), (16, 0), (17, 0), (18, 0), (19, 0), (20, 0), (21, 0), (22, 1), (23, 2), (24, 0)] rfl (by kernel_rfl) (by kernel_rfl) ?_
       all_goals iterate 3 (refine D.g rfl trivial rfl rfl fun Y Z => ?_; simp only [zz, reduceIte, Nat.reduceEqDiff, Nat.reduceAdd, f1, k1, f3, f4, f16, f17, f18, f6, k6, f5, f7, hs2]; refine Z _ _ ?_; clear Z Y)
       all_goals (first | (refine D.y rfl trivial rfl rfl rfl rfl fun Y Z => ?_; simp only [zz, reduceIte, Nat.reduceEqDiff, Nat.reduceAdd, f1, k1, f3, f4, f16, f17, f18, f6, k6, f5, f7, hs2]; refine Z _ _ ?_; clear Z Y) | ((first | refine D.x rfl (fun h => by cases h) rfl rfl rfl rfl fun Y Z => ?_ | refine D.u rfl (fun h => by cases h) rfl rfl rfl rfl fun Y Z => ?_); simp only [ze, reduceIte, Nat.reduceEqDiff]; refine Z _ _ ?_; clear Z Y))
       all_goals (first | (refine D.y rfl trivial rfl rfl rfl rfl fun Y Z => ?_; simp only [zz, reduceIte, Nat.reduceEqDiff, Nat.reduceLT, Nat.reduceLeDiff, Nat.reduceAdd, reduceCtorEq, Nat.reduceMul, f1, k1, f3, f4, f16, f17, f18, f6, k6, f5, f7, hs2]; refine S.bool fun b a39 => ?_; cases b <;> (try (exfalso; first | exact Bool.noConfusion a39 | (have h := of_decide_eq_true a39; omega) | (have h := of_decide_eq_false a39; omega))) <;> (refine Z _ _ ?_; clear Z Y)) | ((first | refine D.x rfl (fun h => by cases h) rfl rfl rfl rfl fun Y Z => ?_ | refine D.u rfl (fun h => by cases h) rfl rfl rfl rfl fun Y Z => ?_); simp only [ze, reduceIte, Nat.reduceEqDiff]; refine Z _ _ ?_; clear Z Y))
       all_goals iterate 5 (first | (refine D.y rfl trivial rfl rfl rfl rfl fun Y Z => ?_; simp only [zz, reduceIte, Nat.reduceEqDiff, Nat.reduceLT, Nat.reduceLeDiff, Nat.reduceAdd, reduceCtorEq, Nat.reduceMul, of38_0, of24_0, f1, k1, f3, f4, f16, f17, f18, f6, k6, f5, f7, hs2]; refine Z _ _ ?_; clear Z Y) | ((first | refine D.x rfl (fun h => by cases h) rfl rfl rfl rfl fun Y Z => ?_ | refine D.u rfl (fun h => by cases h) rfl rfl rfl rfl fun Y Z => ?_); simp only [ze, reduceIte, Nat.reduceEqDiff]; refine Z _ _ ?_; clear Z Y))
       all_goals iterate 2 (first | (refine D.y rfl (by first | rfl | (simp only [stC, ze, reduceIte, Nat.reduceEqDiff, f1, k1, f3, f4, f16, f17, f18, f6, k6, f5, f7, hs2]; done) | (simp only [stC, ze, reduceIte, Nat.reduceEqDiff, f1, k1, f3, f4, f16, f17, f18, f6, k6, f5, f7, hs2]; rfl)) rfl rfl rfl rfl fun Y Z => ?_; simp only [zz, reduceIte, Nat.reduceEqDiff, Nat.reduceLT, Nat.reduceLeDiff, Nat.reduceAdd, reduceCtorEq, Nat.reduceMul, ok9, sz9, ag9, ok22, sz22, ag22, f1, k1, f3, f4, f16, f17, f18, f6, k6, f5, f7, hs2]; refine Z _ _ ?_; clear Z Y) | ((first | refine D.x rfl (fun _ => rfl) rfl rfl rfl rfl fun Y Z => ?_ | refine D.u rfl (fun _ => rfl) rfl rfl rfl rfl fun Y Z => ?_); simp only [ze, reduceIte, Nat.reduceEqDiff]; refine Z _ _ ?_; clear Z Y))
       all_goals iterate 2 (first | (refine D.y rfl trivial rfl rfl rfl rfl fun Y Z => ?_; simp only [zz, reduceIte, Nat.reduceEqDiff, Nat.reduceLT, Nat.reduceLeDiff, Nat.reduceAdd, reduceCtorEq, Nat.reduceMul, sl22, el22, ok38, sz38, ag38, of38_0, f1, k1, f3, f4, f16, f17, f18, f6, k6, f5, f7, hs2]; refine Z _ _ ?_; clear Z Y) | ((first | refine D.x rfl (fun h => by cases h) rfl rfl rfl rfl fun Y Z => ?_ | refine D.u rfl (fun h => by cases h) rfl rfl rfl rfl fun Y Z => ?_); simp only [ze, reduceIte, Nat.reduceEqDiff]; refine Z _ _ ?_; clear Z Y))
       all_goals (first | (refine D.y rfl (by first | rfl | (simp only [stC, ze, reduceIte, Nat.reduceEqDiff, f1, k1, f3, f4, f16, f17, f18, f6, k6, f5, f7, hs2]; done) | (simp only [stC, ze, reduceIte, Nat.reduceEqDiff, f1, k1, f3, f4, f16, f17, f18, f6, k6, f5, f7, hs2]; rfl)) rfl rfl rfl rfl fun Y Z => ?_; simp only [zz, reduceIte, Nat.reduceEqDiff, Nat.reduceLT, Nat.reduceLeDiff, Nat.reduceAdd, reduceCtorEq, Nat.reduceMul, ok9, sz9, ag9, f1, k1, f3, f4, f16, f17, f18, f6, k6, f5, f7, hs2]; refine Z _ _ ?_; clear Z Y) | ((first | refine D.x rfl (fun _ => rfl) rfl rfl rfl rfl fun Y Z => ?_ | refine D.u rfl (fun _ => rfl) rfl rfl rfl rfl fun Y Z => ?_); simp only [ze, reduceIte, Nat.reduceEqDiff]; refine Z _ _ ?_; clear Z Y))
       all_goals (first | (refine D.y rfl trivial rfl rfl rfl rfl fun Y Z => ?_; simp only [zz, reduceIte, Nat.reduceEqDiff, Nat.reduceLT, Nat.reduceLeDiff, Nat.reduceAdd, reduceCtorEq, Nat.reduceMul, f1, k1, f3, f4, f16, f17, f18, f6, k6, f5, f7, hs2]; refine S.bool fun b a50 => ?_; cases b <;> (try (exfalso; first | exact Bool.noConfusion a50 | (have h := of_decide_eq_true a50; omega) | (have h := of_decide_eq_false a50; omega))) <;> (refine Z _ _ ?_; clear Z Y)) | ((first | refine D.x rfl (fun h => by cases h) rfl rfl rfl rfl fun Y Z => ?_ | refine D.u rfl (fun h => by cases h) rfl rfl rfl rfl fun Y Z => ?_); simp only [ze, reduceIte, Nat.reduceEqDiff]; refine Z _ _ ?_; clear Z Y))
       all_goals (first | (refine D.y rfl trivial rfl rfl rfl rfl fun Y Z => ?_; simp only [zz, reduceIte, Nat.reduceEqDiff, Nat.reduceAdd, f1, k1, f3, f4, f16, f17, f18, f6, k6, f5, f7, hs2]; refine Z _ _ ?_; clear Z Y) | ((first | refine D.x rfl (fun h => by cases h) rfl rfl rfl rfl fun Y Z => ?_ | refine D.u rfl (fun h => by cases h) rfl rfl rfl rfl fun Y Z => ?_); simp only [ze, reduceIte, Nat.reduceEqDiff]; refine Z _ _ ?_; clear Z Y))
       all_goals iterate 2 (refine D.g rfl trivial rfl rfl fun Y Z => ?_; simp only [zz, reduceIte, Nat.reduceEqDiff, Nat.reduceAdd, f1, k1, f3, f4, f16, f17, f18, f6, k6, f5, f7, hs2]; refine Z _ _ ?_; clear Z Y)
       all_goals iterate 3 (first | (refine D.y rfl trivial rfl rfl rfl rfl fun Y Z => ?_; simp only [zz, reduceIte, Nat.reduceEqDiff, Nat.reduceLT, Nat.reduceLeDiff, Nat.reduceAdd, reduceCtorEq, Nat.reduceMul, of38_1, of36_0, f1, k1, f3, f4, f16, f17, f18, f6, k6, f5, f7, hs2]; refine Z _ _ ?_; clear Z Y) | ((first | refine D.x rfl (fun h => by cases h) rfl rfl rfl rfl fun Y Z => ?_ | refine D.u rfl (fun h => by cases h) rfl rfl rfl rfl fun Y Z => ?_); simp only [ze, reduceIte, Nat.reduceEqDiff]; refine Z _ _ ?_; clear Z Y))
       all_goals (first | (refine D.y rfl (by first | rfl | (simp only [stC, ze, reduceIte, Nat.reduceEqDiff, f1, k1, f3, f4, f16, f17, f18, f6, k6, f5, f7, hs2]; done) | (simp only [stC, ze, reduceIte, Nat.reduceEqDiff, f1, k1, f3, f4, f16, f17, f18, f6, k6, f5, f7, hs2]; rfl)) rfl rfl rfl rfl fun Y Z => ?_; simp only [zz, reduceIte, Nat.reduceEqDiff, Nat.reduceLT, Nat.reduceLeDiff, Nat.reduceAdd, reduceCtorEq, Nat.reduceMul, ok33, sz33, ag33, f1, k1, f3, f4, f16, f17, f18, f6, k6, f5, f7, hs2]; refine Z _ _ ?_; clear Z Y) | ((first | refine D.x rfl (fun _ => rfl) rfl rfl rfl rfl fun Y Z => ?_ | refine D.u rfl (fun _ => rfl) rfl rfl rfl rfl fun Y Z => ?_); simp only [ze, reduceIte, Nat.reduceEqDiff]; refine Z _ _ ?_; clear Z Y))
       all_goals (first | (refine D.y rfl trivial rfl rfl rfl rfl fun Y Z => ?_; simp only [zn, reduceIte, Nat.reduceEqDiff, Nat.reduceLT, Nat.reduceLeDiff, Nat.reduceAdd, reduceCtorEq, Nat.reduceMul, f1, k1, f3, f4, f16, f17, f18, f6, k6, f5, f7, hs2]; refine ⟨_, _, _, Tryz.underlying87, key33, rfl, entOk_seen _, ?_⟩; (try simp only [zt4, ofC, Option.some.injEq, exists_eq_left', zz, reduceIte, Nat.reduceEqDiff, Nat.reduceLT, Nat.reduceLeDiff, Nat.reduceAdd, reduceCtorEq, Nat.reduceMul, f1, k1, f3, f4, f16, f17, f18, f6, k6, f5, f7, hs2]) <;> (refine Z _ _ ?_; clear Z Y)) | ((first | refine D.x rfl (fun h => by cases h) rfl rfl rfl rfl fun Y Z => ?_ | refine D.u rfl (fun h => by cases h) rfl rfl rfl rfl fun Y Z => ?_); simp only [ze, reduceIte, Nat.reduceEqDiff]; refine Z _ _ ?_; clear Z Y))
       all_goals (refine D.g rfl trivial rfl rfl fun Y Z => ?_; simp only [zz, reduceIte, Nat.reduceEqDiff, Nat.reduceAdd, f1, k1, f3, f4, f16, f17, f18, f6, k6, f5, f7, hs2]; refine Z _ _ ?_; clear Z Y)
       all_goals refine D.nil ?_
       all_goals simp only [ze, reduceIte, Nat.reduceEqDiff, Nat.reduceLT, Nat.reduceLeDiff, Nat.reduceAdd, reduceCtorEq, Nat.reduceMul, f1, k1, f3, f4, f16, f17, f18, f6, k6, f5, f7, hs2]
       all_goals (first | refine ⟨rfl, ?_⟩ | skip)
       all_goals simp [hs1]
      ·have hi1 : i - 1 < l.length := by omega
       have hpb : (if i = 0 then none else (l[i-1]?).map (·.var)).any (leS a.var ·) = leS a.var l[i-1].var := by simp [hi0, hi1]
       rw [hpb]
       have hg1 := getD_map (f := encBd) hi1
       have hw : IntKind.i64.wrap ((i : Int) - 1) = ((i - 1 : Nat) : Int) := by rw [wrap_small _ (by omega) (by omega)]; omega
       cases nm
       all_goals refine AW.draw (T := { sd := fun d => d == 1 || d == 6 }) (fun _ _ h => by cases h) mixedO [(0, 0), (1, 0), (2, 0), (3, 0), (4, 0), (5, 0), (6, 0), (8, 0), (10, 0), (11, 0), (7, 1), (9, 1), (12, 0), (13, 0), (14, 1), (15, 0), (16, 0), (17, 0), (18, 0), (19, 0), (20, 0), (21, 0), (22, 1), (23, 2), (24, 0)] rfl (by kernel_rfl) (by kernel_rfl) ?_
       all_goals iterate 3 (refine D.g rfl trivial rfl rfl fun Y Z => ?_; simp only [zz, reduceIte, Nat.reduceEqDiff, Nat.reduceAdd, f1, k1, f3, f4, f16, f17, f18, f6, k6, f5, f7, hs2, hi1, hg1, encBd, hw]; refine Z _ _ ?_; clear Z Y)
       all_goals (first | (refine D.y rfl trivial rfl rfl rfl rfl fun Y Z => ?_; simp only [zz, reduceIte, Nat.reduceEqDiff, Nat.reduceAdd, f1, k1, f3, f4, f16, f17, f18, f6, k6, f5, f7, hs2, hi1, hg1, encBd, hw]; refine Z _ _ ?_; clear Z Y) | ((first | refine D.x rfl (fun h => by cases h) rfl rfl rfl rfl fun Y Z => ?_ | refine D.u rfl (fun h => by cases h) rfl rfl rfl rfl fun Y Z => ?_); simp only [ze, reduceIte, Nat.reduceEqDiff]; refine Z _ _ ?_; clear Z Y))
       all_goals (first | (refine D.y rfl trivial rfl rfl rfl rfl fun Y Z => ?_; simp only [zz, reduceIte, Nat.reduceEqDiff, Nat.reduceLT, Nat.reduceLeDiff, Nat.reduceAdd, reduceCtorEq, Nat.reduceMul, f1, k1, f3, f4, f16, f17, f18, f6, k6, f5, f7, hs2, hi1, hg1, encBd, hw]; refine S.bool fun b a39 => ?_; cases b <;> (try (exfalso; first | exact Bool.noConfusion a39 | (have h := of_decide_eq_true a39; omega) | (have h := of_decide_eq_false a39; omega))) <;> (refine Z _ _ ?_; clear Z Y)) | ((first | refine D.x rfl (fun h => by cases h) rfl rfl rfl rfl fun Y Z => ?_ | refine D.u rfl (fun h => by cases h) rfl rfl rfl rfl fun Y Z => ?_); simp only [ze, reduceIte, Nat.reduceEqDiff]; refine Z _ _ ?_; clear Z Y))
       all_goals iterate 5 (first | (refine D.y rfl trivial rfl rfl rfl rfl fun Y Z => ?_; simp only [zz, reduceIte, Nat.reduceEqDiff, Nat.reduceLT, Nat.reduceLeDiff, Nat.reduceAdd, reduceCtorEq, Nat.reduceMul, of38_0, of24_0, f1, k1, f3, f4, f16, f17, f18, f6, k6, f5, f7, hs2, hi1, hg1, encBd, hw]; refine Z _ _ ?_; clear Z Y) | ((first | refine D.x rfl (fun h => by cases h) rfl rfl rfl rfl fun Y Z => ?_ | refine D.u rfl (fun h => by cases h) rfl rfl rfl rfl fun Y Z => ?_); simp only [ze, reduceIte, Nat.reduceEqDiff]; refine Z _ _ ?_; clear Z Y))
       all_goals iterate 2 (first | (refine D.y rfl (by first | rfl | (simp only [stC, ze, reduceIte, Nat.reduceEqDiff, f1, k1, f3, f4, f16, f17, f18, f6, k6, f5, f7, hs2, hi1, hg1, encBd, hw]; done) | (simp only [stC, ze, reduceIte, Nat.reduceEqDiff, f1, k1, f3, f4, f16, f17, f18, f6, k6, f5, f7, hs2, hi1, hg1, encBd, hw]; rfl)) rfl rfl rfl rfl fun Y Z => ?_; simp only [zz, reduceIte, Nat.reduceEqDiff, Nat.reduceLT, Nat.reduceLeDiff, Nat.reduceAdd, reduceCtorEq, Nat.reduceMul, ok9, sz9, ag9, ok22, sz22, ag22, f1, k1, f3, f4, f16, f17, f18, f6, k6, f5, f7, hs2, hi1, hg1, encBd, hw]; refine Z _ _ ?_; clear Z Y) | ((first | refine D.x rfl (fun _ => rfl) rfl rfl rfl rfl fun Y Z => ?_ | refine D.u rfl (fun _ => rfl) rfl rfl rfl rfl fun Y Z => ?_); simp only [ze, reduceIte, Nat.reduceEqDiff]; refine Z _ _ ?_; clear Z Y))
       all_goals iterate 2 (first | (refine D.y rfl trivial rfl rfl rfl rfl fun Y Z => ?_; simp only [zz, reduceIte, Nat.reduceEqDiff, Nat.reduceLT, Nat.reduceLeDiff, Nat.reduceAdd, reduceCtorEq, Nat.reduceMul, sl22, el22, ok38, sz38, ag38, of38_0, f1, k1, f3, f4, f16, f17, f18, f6, k6, f5, f7, hs2, hi1, hg1, encBd, hw]; refine Z _ _ ?_; clear Z Y) | ((first | refine D.x rfl (fun h => by cases h) rfl rfl rfl rfl fun Y Z => ?_ | refine D.u rfl (fun h => by cases h) rfl rfl rfl rfl fun Y Z => ?_); simp only [ze, reduceIte, Nat.reduceEqDiff]; refine Z _ _ ?_; clear Z Y))
       all_goals (first | (refine D.y rfl (by first | rfl | (simp only [stC, ze, reduceIte, Nat.reduceEqDiff, f1, k1, f3, f4, f16, f17, f18, f6, k6, f5, f7, hs2, hi1, hg1, encBd, hw]; done) | (simp only [stC, ze, reduceIte, Nat.reduceEqDiff, f1, k1, f3, f4, f16, f17, f18, f6, k6, f5, f7, hs2, hi1, hg1, encBd, hw]; rfl)) rfl rfl rfl rfl fun Y Z => ?_; simp only [zz, reduceIte, Nat.reduceEqDiff, Nat.reduceLT, Nat.reduceLeDiff, Nat.reduceAdd, reduceCtorEq, Nat.reduceMul, ok9, sz9, ag9, f1, k1, f3, f4, f16, f17, f18, f6, k6, f5, f7, hs2, hi1, hg1, encBd, hw]; refine Z _ _ ?_; clear Z Y) | ((first | refine D.x rfl (fun _ => rfl) rfl rfl rfl rfl fun Y Z => ?_ | refine D.u rfl (fun _ => rfl) rfl rfl rfl rfl fun Y Z => ?_); simp only [ze, reduceIte, Nat.reduceEqDiff]; refine Z _ _ ?_; clear Z Y))
       all_goals (first | (refine D.y rfl trivial rfl rfl rfl rfl fun Y Z => ?_; simp only [zz, reduceIte, Nat.reduceEqDiff, Nat.reduceLT, Nat.reduceLeDiff, Nat.reduceAdd, reduceCtorEq, Nat.reduceMul, f1, k1, f3, f4, f16, f17, f18, f6, k6, f5, f7, hs2, hi1, hg1, encBd, hw]; refine S.bool fun b a50 => ?_; cases b <;> (try (exfalso; first | exact Bool.noConfusion a50 | (have h := of_decide_eq_true a50; omega) | (have h := of_decide_eq_false a50; omega))) <;> (refine Z _ _ ?_; clear Z Y)) | ((first | refine D.x rfl (fun h => by cases h) rfl rfl rfl rfl fun Y Z => ?_ | refine D.u rfl (fun h => by cases h) rfl rfl rfl rfl fun Y Z => ?_); simp only [ze, reduceIte, Nat.reduceEqDiff]; refine Z _ _ ?_; clear Z Y))
       all_goals (first | (refine D.y rfl trivial rfl rfl rfl rfl fun Y Z => ?_; simp only [zz, reduceIte, Nat.reduceEqDiff, Nat.reduceAdd, f1, k1, f3, f4, f16, f17, f18, f6, k6, f5, f7, hs2, hi1, hg1, encBd, hw]; refine Z _ _ ?_; clear Z Y) | ((first | refine D.x rfl (fun h => by cases h) rfl rfl rfl rfl fun Y Z => ?_ | refine D.u rfl (fun h => by cases h) rfl rfl rfl rfl fun Y Z => ?_); simp only [ze, reduceIte, Nat.reduceEqDiff]; refine Z _ _ ?_; clear Z Y))
       all_goals iterate 2 (refine D.g rfl trivial rfl rfl fun Y Z => ?_; simp only [zz, reduceIte, Nat.reduceEqDiff, Nat.reduceAdd, f1, k1, f3, f4, f16, f17, f18, f6, k6, f5, f7, hs2, hi1, hg1, encBd, hw]; refine Z _ _ ?_; clear Z Y)
       all_goals iterate 3 (first | (refine D.y rfl trivial rfl rfl rfl rfl fun Y Z => ?_; simp only [zz, reduceIte, Nat.reduceEqDiff, Nat.reduceLT, Nat.reduceLeDiff, Nat.reduceAdd, reduceCtorEq, Nat.reduceMul, of38_1, of36_0, f1, k1, f3, f4, f16, f17, f18, f6, k6, f5, f7, hs2, hi1, hg1, encBd, hw]; refine Z _ _ ?_; clear Z Y) | ((first | refine D.x rfl (fun h => by cases h) rfl rfl rfl rfl fun Y Z => ?_ | refine D.u rfl (fun h => by cases h) rfl rfl rfl rfl fun Y Z => ?_); simp only [ze, reduceIte, Nat.reduceEqDiff]; refine Z _ _ ?_; clear Z Y))
       all_goals (first | (refine D.y rfl (by first | rfl | (simp only [stC, ze, reduceIte, Nat.reduceEqDiff, f1, k1, f3, f4, f16, f17, f18, f6, k6, f5, f7, hs2, hi1, hg1, encBd, hw]; done) | (simp only [stC, ze, reduceIte, Nat.reduceEqDiff, f1, k1, f3, f4, f16, f17, f18, f6, k6, f5, f7, hs2, hi1, hg1, encBd, hw]; rfl)) rfl rfl rfl rfl fun Y Z => ?_; simp only [zz, reduceIte, Nat.reduceEqDiff, Nat.reduceLT, Nat.reduceLeDiff, Nat.reduceAdd, reduceCtorEq, Nat.reduceMul, ok33, sz33, ag33, f1, k1, f3, f4, f16, f17, f18, f6, k6, f5, f7, hs2, hi1, hg1, encBd, hw]; refine Z _ _ ?_; clear Z Y) | ((first | refine D.x rfl (fun _ => rfl) rfl rfl rfl rfl fun Y Z => ?_ | refine D.u rfl (fun _ => rfl) rfl rfl rfl rfl fun Y Z => ?_); simp only [ze, reduceIte, Nat.reduceEqDiff]; refine Z _ _ ?_; clear Z Y))
       all_goals (first | (refine D.y rfl trivial rfl rfl rfl rfl fun Y Z => ?_; simp only [zn, reduceIte, Nat.reduceEqDiff, Nat.reduceLT, Nat.reduceLeDiff, Nat.reduceAdd, reduceCtorEq, Nat.reduceMul, f1, k1, f3, f4, f16, f17, f18, f6, k6, f5, f7, hs2, hi1, hg1, encBd, hw]; refine ⟨_, _, _, Tryz.underlying87, key33, rfl, entOk_seen _, ?_⟩; (try simp only [zt4, ofC, Option.some.injEq, exists_eq_left', zz, reduceIte, Nat.reduceEqDiff, Nat.reduceLT, Nat.reduceLeDiff, Nat.reduceAdd, reduceCtorEq, Nat.reduceMul, f1, k1, f3, f4, f16, f17, f18, f6, k6, f5, f7, hs2, hi1, hg1, encBd, hw]) <;> (refine Z _ _ ?_; clear Z Y)) | ((first | refine D.x rfl (fun h => by cases h) rfl rfl rfl rfl fun Y Z => ?_ | refine D.u rfl (fun h => by cases h) rfl rfl rfl rfl fun Y Z => ?_); simp only [ze, reduceIte, Nat.reduceEqDiff]; refine Z _ _ ?_; clear Z Y))
       all_goals (refine D.g rfl trivial rfl rfl fun Y Z => ?_; simp only [zz, reduceIte, Nat.reduceEqDiff, Nat.reduceAdd, f1, k1, f3, f4, f16, f17, f18, f6, k6, f5, f7, hs2, hi1, hg1, encBd, hw]; refine Z _ _ ?_; clear Z Y)
       all_goals refine D.nil ?_
       all_goals simp only [ze, reduceIte, Nat.reduceEqDiff, Nat.reduceLT, Nat.reduceLeDiff, Nat.reduceAdd, reduceCtorEq, Nat.reduceMul, f1, k1, f3, f4, f16, f17, f18, f6, k6, f5, f7, hs2, hi1, hg1, encBd, hw]
       all_goals (first | refine ⟨rfl, ?_⟩ | skip)
       all_goals (try unfold leS)
       all_goals (first | rw [a50] | skip)
       all_goals simp [hs1]
    rintro s2 σ2 ⟨rfl, g1, j1, g3, g4, g16, g17, g18, g6, j6, g59⟩
    refine AW.cond (b := _) g59 (fun hc => ?_) (fun hc => ?_)
    ·refine AW.seq_k fun K13 h13 => ?_
     all_goals refine AW.reg0 ?_
     all_goals (refine S.g rfl rfl fun Y Z => ?_; simp only [zz, reduceIte, Nat.reduceEqDiff, Nat.reduceAdd]; refine Z _ _ ?_; clear Z Y)
     all_goals refine S.nil ?_
     all_goals simp only [ze, reduceIte, Nat.reduceEqDiff, Nat.reduceLT, Nat.reduceLeDiff, Nat.reduceAdd, reduceCtorEq, Nat.reduceMul]
     all_goals apply_assumption
     refine AW.bare (AW.ret ?_)
     all_goals simp only [zs, reduceIte, Nat.reduceEqDiff, Nat.reduceLT, Nat.reduceLeDiff, Nat.reduceAdd, reduceCtorEq, Nat.reduceMul]
     have h8 : ¬ 12 < l.length := by omega
     have hx := of_decide_eq_true hc
     simp only [partErr, if_neg h8, hp, hd, partFrom, if_pos hx, and_self]
    ·refine AW.skip ?_
     have hx := of_decide_eq_false hc
     all_goals simp only [zs, reduceIte, Nat.reduceEqDiff, Nat.reduceLT, Nat.reduceLeDiff, Nat.reduceAdd, reduceCtorEq, Nat.reduceMul]
     refine ⟨g1, j1, g3, g4, g16, g17, g18, g6, j6, ?_, ?_, ?_⟩
     ·exact (Bool.not_eq_false _).mp fun e => hx (.inl e)
     ·exact (Bool.not_eq_true _).mp fun e => hx (.inr (.inl e))
     ·exact fun e => hx (.inr (.inr e))
   rintro s2 σ2 ⟨rfl, g1, j1, g3, g4, g16, g17, g18, g6, j6, hx1, hx2, hx3⟩
   rw [encBd] at j6
   have hs2 : entV (sn.map ent) (.agg ⟨[.int .i64 a.ev.src, .int .i64 a.ev.seq]⟩) 0 = none := by
    rcases hsn with ⟨_, h⟩ | ⟨h, _⟩
    ·exact h
    ·exact absurd h hx3
   refine AW.seq_k fun K14 h14 => ?_
   all_goals refine AW.reg0 ?_
   all_goals iterate 4 (refine S.g rfl rfl fun Y Z => ?_; simp only [zz, reduceIte, Nat.reduceEqDiff, Nat.reduceLT, Nat.reduceLeDiff, Nat.reduceAdd, reduceCtorEq, Nat.reduceMul, of38_1, of36_0, ok33, sz33, ag33, g1, j1, g3, g4, g16, g17, g18, g6, j6, hs2]; refine Z _ _ ?_; clear Z Y)
   all_goals (refine S.g rfl rfl fun Y Z => ?_; simp only [zn, reduceIte, Nat.reduceEqDiff, Nat.reduceLT, Nat.reduceLeDiff, Nat.reduceAdd, reduceCtorEq, Nat.reduceMul, g1, j1, g3, g4, g16, g17, g18, g6, j6, hs2]; refine ⟨_, _, _, Tryz.underlying87, key33, rfl, entOk_seen _, ?_⟩; (try simp only [zt4, ofC, Option.some.injEq, exists_eq_left', zz, reduceIte, Nat.reduceEqDiff, Nat.reduceLT, Nat.reduceLeDiff, Nat.reduceAdd, reduceCtorEq, Nat.reduceMul, g1, j1, g3, g4, g16, g17, g18, g6, j6, hs2]) <;> (refine Z _ _ ?_; clear Z Y))
   all_goals refine S.nil ?_
   all_goals simp only [ze, reduceIte, Nat.reduceEqDiff, Nat.reduceLT, Nat.reduceLeDiff, Nat.reduceAdd, reduceCtorEq, Nat.reduceMul, g1, j1, g3, g4, g16, g17, g18, g6, j6, hs2]
   all_goals apply_assumption
   refine AW.seq_k fun K15 h15 => ?_
   all_goals refine AW.reg0 ?_
   all_goals iterate 2 (refine S.g rfl rfl fun Y Z => ?_; simp only [zz, reduceIte, Nat.reduceEqDiff, Nat.reduceLT, Nat.reduceLeDiff, Nat.reduceAdd, reduceCtorEq, Nat.reduceMul, of38_1, ok36, sz36, ag36, g1, j1, g3, g4, g16, g17, g18, g6, j6]; refine Z _ _ ?_; clear Z Y)
   all_goals (refine S.g rfl rfl fun Y Z => ?_; simp only [zz, reduceIte, Nat.reduceEqDiff, Nat.reduceLT, Nat.reduceLeDiff, Nat.reduceAdd, reduceCtorEq, Nat.reduceMul, g1, j1, g3, g4, g16, g17, g18, g6, j6]; refine ((check_ev _ (by assumption)).eqto ?_) <;> (refine Z _ _ ?_; clear Z Y))
   all_goals (refine S.g rfl rfl fun Y Z => ?_; simp only [zz, reduceIte, Nat.reduceEqDiff, Nat.reduceAdd, g1, j1, g3, g4, g16, g17, g18, g6, j6]; refine Z _ _ ?_; clear Z Y)
   all_goals refine S.nil ?_
   all_goals simp only [ze, reduceIte, Nat.reduceEqDiff, Nat.reduceLT, Nat.reduceLeDiff, Nat.reduceAdd, reduceCtorEq, Nat.reduceMul, g1, j1, g3, g4, g16, g17, g18, g6, j6]
   all_goals apply_assumption
   refine AW.seq_k fun K16 h16 => ?_
   all_goals refine AW.reg0 ?_
   all_goals iterate 2 (refine S.g rfl rfl fun Y Z => ?_; simp only [zz, reduceIte, Nat.reduceEqDiff, Nat.reduceAdd]; refine Z _ _ ?_; clear Z Y)
   all_goals refine S.nil ?_
   all_goals simp only [ze, reduceIte, Nat.reduceEqDiff, Nat.reduceLT, Nat.reduceLeDiff, Nat.reduceAdd, reduceCtorEq, Nat.reduceMul]
   all_goals apply_assumption
   refine AW.cond (b := evErr a.ev != 0) (by simp [ev]) (fun hc => ?_) (fun hc => ?_)
   ·refine AW.seq_k fun K17 h17 => ?_
    all_goals refine AW.reg0 ?_
    all_goals iterate 2 (refine S.g rfl rfl fun Y Z => ?_; simp only [zz, reduceIte, Nat.reduceEqDiff, Nat.reduceAdd]; refine Z _ _ ?_; clear Z Y)
    all_goals refine S.nil ?_
    all_goals simp only [ze, reduceIte, Nat.reduceEqDiff, Nat.reduceLT, Nat.reduceLeDiff, Nat.reduceAdd, reduceCtorEq, Nat.reduceMul]
    all_goals apply_assumption
    refine AW.bare (AW.ret ?_)
    all_goals simp only [zs, reduceIte, Nat.reduceEqDiff, Nat.reduceLT, Nat.reduceLeDiff, Nat.reduceAdd, reduceCtorEq, Nat.reduceMul]
    have hy : evErr a.ev ≠ 0 := by simpa using hc
    have h8 : ¬ 12 < l.length := by omega
    have hx : ¬ (named l.length a = false ∨ (if i = 0 then none else (l[i-1]?).map (·.var)).any (leS a.var ·) = true ∨ (a.ev.src, a.ev.seq) ∈ sn) := by rw [hx1, hx2]; simp [hx3]
    simp only [partErr, if_neg h8, hp, hd, partFrom, if_neg hx, if_pos hy, and_self]
   ·refine AW.skip ?_
    all_goals simp only [zs, reduceIte, Nat.reduceEqDiff, Nat.reduceLT, Nat.reduceLeDiff, Nat.reduceAdd, reduceCtorEq, Nat.reduceMul]
    all_goals apply_assumption
    have hy : evErr a.ev = 0 := by simpa using hc
    have hw : IntKind.i64.wrap ((i : Int) + 1) = ((i + 1 : Nat) : Int) := by rw [wrap_small _ (by omega) (by omega)]; rfl
    have hx : ¬ (named l.length a = false ∨ (if i = 0 then none else (l[i-1]?).map (·.var)).any (leS a.var ·) = true ∨ (a.ev.src, a.ev.seq) ∈ sn) := by rw [hx1, hx2]; simp [hx3]
    all_goals refine AW.reg0 ?_
    all_goals iterate 2 (refine S.g rfl rfl fun Y Z => ?_; simp only [zz, reduceIte, Nat.reduceEqDiff, Nat.reduceAdd, g18, hw]; refine Z _ _ ?_; clear Z Y)
    all_goals refine S.nil ?_
    all_goals simp only [ze, reduceIte, Nat.reduceEqDiff, Nat.reduceLT, Nat.reduceLeDiff, Nat.reduceAdd, reduceCtorEq, Nat.reduceMul, g18, hw]
    refine ⟨m - 1, by omega, i + 1, sn ++ [(a.ev.src, a.ev.seq)], by omega, by simp [ent], g1, j1, g3, g4, g16, g17, rfl, ?_⟩
    rw [hp, hd, partFrom, if_neg hx, if_neg (fun e => e hy)]
    simp [ha, hi]
  ·refine AW.exit ?_
   all_goals simp only [zs, reduceIte, Nat.reduceEqDiff, Nat.reduceLT, Nat.reduceLeDiff, Nat.reduceAdd, reduceCtorEq, Nat.reduceMul]
   -- EXIT 0
   all_goals apply_assumption
   refine AW.seq_k fun K18 h18 => ?_
   all_goals refine AW.reg0 ?_
   all_goals (refine S.g rfl rfl fun Y Z => ?_; simp only [zz, reduceIte, Nat.reduceEqDiff, Nat.reduceAdd]; refine Z _ _ ?_; clear Z Y)
   all_goals refine S.nil ?_
   all_goals simp only [ze, reduceIte, Nat.reduceEqDiff, Nat.reduceLT, Nat.reduceLeDiff, Nat.reduceAdd, reduceCtorEq, Nat.reduceMul]
   all_goals apply_assumption
   refine AW.bare (AW.ret ?_)
   all_goals simp only [zs, reduceIte, Nat.reduceEqDiff, Nat.reduceLT, Nat.reduceLeDiff, Nat.reduceAdd, reduceCtorEq, Nat.reduceMul]
   have hi : l.length ≤ i := by simpa using hc
   have h8 : ¬ 12 < l.length := by omega
   simp [partErr, h8, hp, List.drop_of_length_le hi, partFrom]
end Go.Abs.M
namespace Go.Abs
open Go
section
variable {P : Program} {T : Tab} {B : Base} {n : Nat} {cx cx' : Cx} {s : St} {σ σ' : Hp} {a : Act} {w w' : World} {K : St → Hp → Prop}
inductive Tr where
  | nil
  | st (i k : Nat) (t : Tr)
  | fork (i : Nat) (a : Tr) (j : Nat) (b : Tr)
def Tr.len : Tr → Nat
  | .nil => 0
  | .st _ _ t => t.len + 1
  | .fork _ a _ _ => a.len + 1
def one (P : Program) (T : Tab) (n : Nat) (ops : List Oper) (ds : List (Option Nat)) (i k : Nat) (N : St → Hp → Prop) (s : St) (σ : Hp) : Prop :=
  match ops[i]? with
  | none => False
  | some o => dOK n o.dst ∧ (match k, o.op with
       | 1, .load _ x => gate ds s o.guard (steady T.sd (ev s x) = true) True
       | 1, _ => False
       | _, _ => True) ∧ gate ds s o.guard (semOp P T o N s σ) (N (s.putO o.dst (.c undef)) σ)
def semT (P : Program) (T : Tab) (n : Nat) (ops : List Oper) (ds : List (Option Nat)) : Tr → (St → Hp → Prop) → St → Hp → Prop
  | .nil, K => K
  | .st i k r, K => one P T n ops ds i k (semT P T n ops ds r K)
  | .fork i a j b, K => fun s σ => one P T n ops ds i 2 (semT P T n ops ds a K) s σ ∧ one P T n ops ds j 2 (semT P T n ops ds b K) s σ
/-- The list, written out first. -/
def forceL {α : Type} : List Bool → (List Bool → α) → α
  | [], k => k []
  | true :: l, k => forceL l fun m => k (true :: m)
  | false :: l, k => forceL l fun m => k (false :: m)
theorem forceL_eq {α : Type} : ∀ (l : List Bool) (k : List Bool → α), forceL l k = k l
  | [], _ => rfl
  | true :: l, k => by rw [forceL, forceL_eq l]
  | false :: l, k => by rw [forceL, forceL_eq l]
def setL : List Bool → Nat → List Bool
  | [], _ => []
  | _ :: l, 0 => true :: l
  | b :: l, i + 1 => b :: setL l i
theorem setL_eq : ∀ (l : List Bool) (i : Nat), setL l i = l.set i true
  | [], _ => rfl
  | _ :: _, 0 => rfl
  | b :: l, i + 1 => by rw [setL, setL_eq l i]; rfl
def zipR (q : Oper → Bool) : List Oper → List Bool → Nat → List Nat
  | o :: os, b :: ls, i => bif b then zipR q os ls (i + 1) else bif q o then i :: zipR q os ls (i + 1) else zipR q os ls (i + 1)
  | _, _, _ => []
theorem zipR_eq (q : Oper → Bool) : ∀ (os : List Oper) (ls : List Bool) (k : Nat), ls.length = os.length →
    zipR q os ls k = (List.range' k os.length).filter fun i => !ls.getD (i - k) true && ((os[i - k]?).map q).getD false
  | [], [], k, _ => rfl
  | o :: os, b :: ls, k, h => by
    have ih := zipR_eq q os ls (k + 1) (by simpa using h)
    have hf : (List.range' (k + 1) os.length).filter (fun i => !(b :: ls).getD (i - k) true && (((o :: os)[i - k]?).map q).getD false) = zipR q os ls (k + 1) := by
      rw [ih]
      refine List.filter_congr fun i hi => ?_
      obtain ⟨h1, _⟩ := List.mem_range'_1.1 hi
      rw [show i - k = (i - (k + 1)) + 1 by omega]
      simp
    rw [zipR, List.length_cons, List.range'_succ, List.filter_cons, hf]
    cases b <;> cases hq : q o <;> simp [hq]
def rdy (os : List Oper) (l : List Bool) : List Nat := zipR (fun o => o.after.toList.all fun e => !Region.binds .any e || l.getD e.on false) os l 0
theorem rdy_eq {os : List Oper} {l : List Bool} (h : l.length = os.length) : rdy os l = Region.ready .any ⟨os⟩ ⟨l⟩ := by
  unfold rdy Region.ready
  rw [zipR_eq _ _ _ _ h, List.range_eq_range']
  simp [Array.getD_eq_getD_getElem?, List.getD]
def zipA (q : Oper → Bool) (i : Nat) : List Oper → List Bool → Nat → Bool
  | o :: os, b :: ls, j => bif b then zipA q i os ls (j + 1) else (j == i || q o) && zipA q i os ls (j + 1)
  | _, _, _ => true
theorem zipA_eq (q : Oper → Bool) (i : Nat) : ∀ (os : List Oper) (ls : List Bool) (k : Nat), ls.length = os.length →
    zipA q i os ls k = (List.range' k os.length).all fun j => j == i || ls.getD (j - k) true || match os[j - k]? with | some o => q o | none => true
  | [], [], k, _ => rfl
  | o :: os, b :: ls, k, h => by
    have ih := zipA_eq q i os ls (k + 1) (by simpa using h)
    have hf : ((List.range' (k + 1) os.length).all fun j => j == i || (b :: ls).getD (j - k) true || match (o :: os)[j - k]? with | some o => q o | none => true) = zipA q i os ls (k + 1) := by
      rw [ih, Bool.eq_iff_iff, List.all_eq_true, List.all_eq_true]
      refine forall_congr' fun j => ⟨fun h hj => ?_, fun h hj => ?_⟩
      all_goals
        have h2 := h hj
        obtain ⟨h1, _⟩ := List.mem_range'_1.1 hj
        rw [show j - k = (j - (k + 1)) + 1 by omega] at *
        simpa using h2
    rw [zipA, List.length_cons, List.range'_succ, List.all_cons, hf]
    cases b <;> simp
def fre (os : List Oper) (l : List Bool) (i : Nat) : Bool :=
  match os[i]? with
  | none => false
  | some oi => zipA (fun oj => oj.after.toList.any (fun e => Region.binds .any e && e.on == i) || oi.apart ⟨os⟩ oj) i os l 0
theorem fre_eq {os : List Oper} {l : List Bool} (h : l.length = os.length) (i : Nat) : fre os l i = Region.free .any ⟨os⟩ ⟨l⟩ i := by
  unfold fre Region.free
  simp only [List.getElem?_toArray]
  cases os[i]? with
  | none => rfl
  | some oi =>
    simp only []
    rw [zipA_eq _ _ _ _ _ h, List.range_eq_range']
    simp [Array.getD_eq_getD_getElem?, List.getD]
    rfl
theorem setL_len (l : List Bool) (i : Nat) : (setL l i).length = l.length := by rw [setL_eq, List.length_set]
/-- The two orders of two, then the rest. -/
def Tr.of : List (Nat × Nat) → Tr
  | [] => .nil
  | (i, 3) :: (j, _) :: r => .fork i (.st j 2 (Tr.of r)) j (.st i 2 (Tr.of r))
  | (i, k) :: r => .st i k (Tr.of r)
section
variable {ops : List Oper} {i k d j : Nat} {r : Tr} {o : Oper} {ds : List (Option Nat)} {b : Bool}
theorem T.g (ho : ops[i]? = some o) (hs : stC T s k o.op) (hd : okd n o.dst = true) (hg : o.guard = none)
    (h : ∀ K' : St → Hp → Prop, (∀ s σ, semT P T n ops ds r K s σ → K' s σ) → semOp P T o K' s σ) : semT P T n ops ds (.st i k r) K s σ := by
  have := D.g (P := P) (T := T) (n := n) (s := s) (σ := σ) (K := semT P T n ops ds r K) (ds := ds) (ops := ops) (i := i) (k := k) (l := []) ho hs hd hg h
  exact this
theorem T.y (ho : ops[i]? = some o) (hs : stC T s k o.op) (hd : okd n o.dst = true) (hg : o.guard = some (j, b)) (hj : ds[j]? = some (some d)) (hb : s.t d = .c (.bool b))
    (h : ∀ K' : St → Hp → Prop, (∀ s σ, semT P T n ops ds r K s σ → K' s σ) → semOp P T o K' s σ) : semT P T n ops ds (.st i k r) K s σ := by
  have := D.y (P := P) (T := T) (n := n) (s := s) (σ := σ) (K := semT P T n ops ds r K) (ds := ds) (ops := ops) (i := i) (k := k) (l := []) ho hs hd hg hj hb h
  exact this
theorem T.x (ho : ops[i]? = some o) (hk : k = 1 → isLoad o.op = true) (hd : okd n o.dst = true) (hg : o.guard = some (j, b)) (hj : ds[j]? = some (some d)) (hb : s.t d = .c (.bool (!b)))
    (h : ∀ K' : St → Hp → Prop, (∀ s σ, semT P T n ops ds r K s σ → K' s σ) → K' (s.putO o.dst (.c undef)) σ) : semT P T n ops ds (.st i k r) K s σ := by
  have := D.x (P := P) (T := T) (n := n) (s := s) (σ := σ) (K := semT P T n ops ds r K) (ds := ds) (ops := ops) (i := i) (k := k) (l := []) ho hk hd hg hj hb h
  exact this
theorem T.u (ho : ops[i]? = some o) (hk : k = 1 → isLoad o.op = true) (hd : okd n o.dst = true) (hg : o.guard = some (j, b)) (hj : ds[j]? = some (some d)) (hb : s.t d = .c undef)
    (h : ∀ K' : St → Hp → Prop, (∀ s σ, semT P T n ops ds r K s σ → K' s σ) → K' (s.putO o.dst (.c undef)) σ) : semT P T n ops ds (.st i k r) K s σ := by
  have := D.u (P := P) (T := T) (n := n) (s := s) (σ := σ) (K := semT P T n ops ds r K) (ds := ds) (ops := ops) (i := i) (k := k) (l := []) ho hk hd hg hj hb h
  exact this
theorem T.nil (h : K s σ) : semT P T n ops ds .nil K s σ := h
/-- Only so much of the state is wanted from here on. -/
theorem T.cut {t : Tr} (J : St → Hp → Prop) (h : J s σ) (k : ∀ s σ, J s σ → semT P T n ops ds t K s σ) : semT P T n ops ds t K s σ := k s σ h
theorem D.cut {t : List (Nat × Nat)} (J : St → Hp → Prop) (h : J s σ) (k : ∀ s σ, J s σ → semD P T n ops ds t K s σ) : semD P T n ops ds t K s σ := k s σ h
theorem S.cut {r : List Oper} (J : St → Hp → Prop) (h : J s σ) (k : ∀ s σ, J s σ → semL P T n ds r K s σ) : semL P T n ds r K s σ := k s σ h
theorem AW.cut {c : Code} {Q : Exit → St → Hp → Prop} (J : St → Hp → Prop) (h : J s σ) (k : ∀ s σ, J s σ → AW P n c Q s σ) : AW P n c Q s σ := k s σ h
theorem T.fork {a c : Tr} (h1 : semT P T n ops ds (.st i 2 a) K s σ) (h2 : semT P T n ops ds (.st j 2 c) K s σ) : semT P T n ops ds (.fork i a j c) K s σ := ⟨h1, h2⟩
end
end
end Go.Abs
