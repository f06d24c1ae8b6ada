import Derived.Test.YtmhamgllanihoaaLb
import Derived.Laws.Append
namespace Go.Abs
open Go

section
variable {P : Program} {T : Tab} {B : Base} {n : Nat} {cx cx' : Cx} {s : St} {σ σ' : Hp} {a : Act} {w w' : World} {K : St → Hp → Prop}

/-! #### schedules that part: at a fork either of two operations may come first -/
inductive Tr where
  | nil
  | st (i k : Nat) (t : Tr)
  | fork (i : Nat) (a : Tr) (j : Nat) (b : Tr)
def Tr.len : Tr → Nat
  | .nil => 0
  | .st _ _ t => t.len + 1
  | .fork _ a _ _ => a.len + 1
def one (P : Program) (T : Tab) (n : Nat) (ops : List Oper) (ds : List (Option Nat)) (i k : Nat) (N : St → Hp → Prop) (s : St) (σ : Hp) : Prop :=
  match ops[i]? with
  | none => False
  | some o => dOK n o.dst ∧ (match k, o.op with
       | 1, .load _ x => gate ds s o.guard (steady T.sd (ev s x) = true) True
       | 1, _ => False
       | _, _ => True) ∧ gate ds s o.guard (semOp P T o N s σ) (N (s.putO o.dst (.c undef)) σ)
def semT (P : Program) (T : Tab) (n : Nat) (ops : List Oper) (ds : List (Option Nat)) : Tr → (St → Hp → Prop) → St → Hp → Prop
  | .nil, K => K
  | .st i k r, K => one P T n ops ds i k (semT P T n ops ds r K)
  | .fork i a j b, K => fun s σ => one P T n ops ds i 2 (semT P T n ops ds a K) s σ ∧ one P T n ops ds j 2 (semT P T n ops ds b K) s σ
def schedT (P : Program) (ops : Array Oper) : Tr → Bool → Array Bool → Bool
  | .nil, _, listed => (Region.ready .any ops listed).isEmpty
  | .st i k r, early, listed =>
    (match k with
     | 0 => ((ops[i]?).map fun o => pureOp P o.op).getD false && (Region.ready .any ops listed).contains i && Region.free .any ops listed i
     | 1 => early && ((ops[i]?).map fun o => isLoad o.op).getD false && (Region.ready .any ops listed).contains i && Region.free .any ops listed i
     | _ => Region.ready .any ops listed == [i]) &&
    schedT P ops r early (listed.setIfInBounds i true)
  | .fork i a j b, early, listed => Region.ready .any ops listed == [i, j] && a.len == b.len && schedT P ops a early (listed.setIfInBounds i true) && schedT P ops b early (listed.setIfInBounds j true)

/-- The list, written out first. -/
def forceL {α : Type} : List Bool → (List Bool → α) → α
  | [], k => k []
  | true :: l, k => forceL l fun m => k (true :: m)
  | false :: l, k => forceL l fun m => k (false :: m)
theorem forceL_eq {α : Type} : ∀ (l : List Bool) (k : List Bool → α), forceL l k = k l
  | [], _ => rfl
  | true :: l, k => by rw [forceL, forceL_eq l]
  | false :: l, k => by rw [forceL, forceL_eq l]
def setL : List Bool → Nat → List Bool
  | [], _ => []
  | _ :: l, 0 => true :: l
  | b :: l, i + 1 => b :: setL l i
theorem setL_eq : ∀ (l : List Bool) (i : Nat), setL l i = l.set i true
  | [], _ => rfl
  | _ :: _, 0 => rfl
  | b :: l, i + 1 => by rw [setL, setL_eq l i]; rfl
def zipR (q : Oper → Bool) : List Oper → List Bool → Nat → List Nat
  | o :: os, b :: ls, i => bif b then zipR q os ls (i + 1) else bif q o then i :: zipR q os ls (i + 1) else zipR q os ls (i + 1)
  | _, _, _ => []
theorem zipR_eq (q : Oper → Bool) : ∀ (os : List Oper) (ls : List Bool) (k : Nat), ls.length = os.length →
    zipR q os ls k = (List.range' k os.length).filter fun i => !ls.getD (i - k) true && ((os[i - k]?).map q).getD false
  | [], [], k, _ => rfl
  | o :: os, b :: ls, k, h => by
    have ih := zipR_eq q os ls (k + 1) (by simpa using h)
    have hf : (List.range' (k + 1) os.length).filter (fun i => !(b :: ls).getD (i - k) true && (((o :: os)[i - k]?).map q).getD false) = zipR q os ls (k + 1) := by
      rw [ih]
      refine List.filter_congr fun i hi => ?_
      obtain ⟨h1, _⟩ := List.mem_range'_1.1 hi
      rw [show i - k = (i - (k + 1)) + 1 by omega]
      simp
    rw [zipR, List.length_cons, List.range'_succ, List.filter_cons, hf]
    cases b <;> cases hq : q o <;> simp [hq]
def rdy (os : List Oper) (l : List Bool) : List Nat := zipR (fun o => o.after.toList.all fun e => !Region.binds .any e || l.getD e.on false) os l 0
theorem rdy_eq {os : List Oper} {l : List Bool} (h : l.length = os.length) : rdy os l = Region.ready .any ⟨os⟩ ⟨l⟩ := by
  unfold rdy Region.ready
  rw [zipR_eq _ _ _ _ h, List.range_eq_range']
  simp [Array.getD_eq_getD_getElem?, List.getD]
def zipA (q : Oper → Bool) (i : Nat) : List Oper → List Bool → Nat → Bool
  | o :: os, b :: ls, j => bif b then zipA q i os ls (j + 1) else (j == i || q o) && zipA q i os ls (j + 1)
  | _, _, _ => true
theorem zipA_eq (q : Oper → Bool) (i : Nat) : ∀ (os : List Oper) (ls : List Bool) (k : Nat), ls.length = os.length →
    zipA q i os ls k = (List.range' k os.length).all fun j => j == i || ls.getD (j - k) true || match os[j - k]? with | some o => q o | none => true
  | [], [], k, _ => rfl
  | o :: os, b :: ls, k, h => by
    have ih := zipA_eq q i os ls (k + 1) (by simpa using h)
    have hf : ((List.range' (k + 1) os.length).all fun j => j == i || (b :: ls).getD (j - k) true || match (o :: os)[j - k]? with | some o => q o | none => true) = zipA q i os ls (k + 1) := by
      rw [ih, Bool.eq_iff_iff, List.all_eq_true, List.all_eq_true]
      refine forall_congr' fun j => ⟨fun h hj => ?_, fun h hj => ?_⟩
      all_goals
        have h2 := h hj
        obtain ⟨h1, _⟩ := List.mem_range'_1.1 hj
        rw [show j - k = (j - (k + 1)) + 1 by omega] at *
        simpa using h2
    rw [zipA, List.length_cons, List.range'_succ, List.all_cons, hf]
    cases b <;> simp
def fre (os : List Oper) (l : List Bool) (i : Nat) : Bool :=
  match os[i]? with
  | none => false
  | some oi => zipA (fun oj => oj.after.toList.any (fun e => Region.binds .any e && e.on == i) || oi.apart ⟨os⟩ oj) i os l 0
theorem fre_eq {os : List Oper} {l : List Bool} (h : l.length = os.length) (i : Nat) : fre os l i = Region.free .any ⟨os⟩ ⟨l⟩ i := by
  unfold fre Region.free
  simp only [List.getElem?_toArray]
  cases os[i]? with
  | none => rfl
  | some oi =>
    simp only []
    rw [zipA_eq _ _ _ _ _ h, List.range_eq_range']
    simp [Array.getD_eq_getD_getElem?, List.getD]
    rfl
/-- The same look, its list written out at each step, and read side by side with the operations. -/
def schedF (P : Program) (ops : List Oper) : Tr → Bool → List Bool → Bool
  | .nil, _, l => (rdy ops l).isEmpty
  | .st i k r, early, l =>
    (match k with
     | 0 => ((ops[i]?).map fun o => pureOp P o.op).getD false && (rdy ops l).contains i && fre ops l i
     | 1 => early && ((ops[i]?).map fun o => isLoad o.op).getD false && (rdy ops l).contains i && fre ops l i
     | _ => rdy ops l == [i]) &&
    forceL (setL l i) fun m => schedF P ops r early m
  | .fork i a j b, early, l => rdy ops l == [i, j] && a.len == b.len && (forceL (setL l i) fun m => schedF P ops a early m) && (forceL (setL l j) fun m => schedF P ops b early m)
theorem setL_len (l : List Bool) (i : Nat) : (setL l i).length = l.length := by rw [setL_eq, List.length_set]
theorem schedF_eq (P : Program) (ops : List Oper) : ∀ (t : Tr) (early : Bool) (l : List Bool), l.length = ops.length → schedF P ops t early l = schedT P ⟨ops⟩ t early ⟨l⟩
  | .nil, _, _, h => by simp only [schedF, schedT, rdy_eq h]
  | .st i k r, early, l, h => by
    simp only [schedF, schedT, forceL_eq, schedF_eq P ops r early (setL l i) ((setL_len l i).trans h), rdy_eq h, fre_eq h, List.getElem?_toArray, List.setIfInBounds_toArray]
    rw [setL_eq]
  | .fork i a j b, early, l, h => by
    simp only [schedF, schedT, forceL_eq, schedF_eq P ops a early (setL l i) ((setL_len l i).trans h), schedF_eq P ops b early (setL l j) ((setL_len l j).trans h), rdy_eq h, List.setIfInBounds_toArray]
    rw [setL_eq, setL_eq]

theorem semT_sound (hT : T.ok P) {ops : Array Oper} (hs : Region.noSelect ops = true) {Q : Act → World → Prop} :
    ∀ (sched : Tr) (early : Bool) (listed : Array Bool) {B : Base} (_hsd : B.sd = T.sd) (_hQ : ∀ a w, KC B n K a w → Q a w) {cx : Cx} {s : St} {σ : Hp} {a : Act} {w : World}, schedT P ops sched early listed = true → SR B n cx s σ a w →
    (early = true → (∀ g, cx.I g → B.still g) ∧ (∀ d cells, T.sd d = true → s.l d = some cells → B.still (cx.L d))) →
    semT P T n ops.toList (ops.toList.map (·.dst)) sched K s σ → wpAnyH P .any ops (onlyN Q) (stillW B) sched.len listed a w
  | .nil, early, listed, B, hsd, hQ, cx, s, σ, a, w, hB, h, he, hk => by
    simp only [schedT, List.isEmpty_iff] at hB
    exact wpAnyH_done hB (hQ a w ⟨cx, s, σ, h, hk⟩) 0
  | .st i k r, early, listed, B, hsd, hQ, cx, s, σ, a, w, hB, h, he, hk => by
    simp only [schedT, Bool.and_eq_true] at hB
    obtain ⟨hB1, hB2⟩ := hB
    simp only [semT, one] at hk
    cases hi : ops.toList[i]? with
    | none => simp [hi] at hk
    | some o =>
      simp only [hi] at hk
      obtain ⟨hd, hst, hk⟩ := hk
      have hi' : ops[i]? = some o := by simpa using hi
      have take : ∀ {v : V} {x : Value}, (Region.wanted o (yielded ops a.tmps) = true ∧ (∀ w', stillW B w' → (execOp a.eval o).run P w' = .ok (.value x) w') ∨ Region.wanted o (yielded ops a.tmps) = false ∧ x = undef) → TR w cx v x →
          semT P T n ops.toList (ops.toList.map (·.dst)) r K (s.putO o.dst v) σ → (Region.ready .any ops listed).contains i = true → Region.free .any ops listed i = true →
          wpAnyH P .any ops (onlyN Q) (stillW B) (Tr.st i k r).len listed a w := fun {v x} hy hv hkr hr hf => by
        have h' := h.putO (dOK_spec hd) hv
        refine wpAnyH_take hi' hs hf hr (fun _ _ _ hq => hq.elim) (v := x) hy h.stillW ?_
        refine semT_sound hT hs r early _ hsd hQ hB2 h' (fun e1 => ?_) hkr
        obtain ⟨h1, h2⟩ := he e1
        refine ⟨h1, fun d cells hsd' hd' => h2 d cells hsd' ?_⟩
        cases hdst : o.dst with
        | none => rw [hdst] at hd'; exact hd'
        | some e => rw [hdst] at hd'; exact hd'
      rcases k with _ | _ | k
      · simp only [hi', Option.map_some, Option.getD_some, Bool.and_eq_true] at hB1
        obtain ⟨⟨hp, hr⟩, hf⟩ := hB1
        rcases gate_wanted (ops := ops) h hk with ⟨hw, hk⟩ | ⟨hw, hk⟩
        · obtain ⟨v, hv, hy⟩ := sem_pure hT hp hk
          obtain ⟨x, hx, ht⟩ := hy h
          exact take (.inl ⟨hw, fun w' _ => hx w'⟩) ht hv hr hf
        · exact take (.inr ⟨hw, rfl⟩) (.v (.c undef)) hk hr hf
      · simp only [hi', Option.map_some, Option.getD_some, Bool.and_eq_true] at hB1
        obtain ⟨⟨⟨hea, hp⟩, hr⟩, hf⟩ := hB1
        obtain ⟨h1, h2⟩ := he hea
        cases ho : o.op <;> simp only [ho, isLoad] at hp hst <;> try (cases hp; done)
        rename_i t x
        have hk2 := gate_and hst hk
        rcases gate_wanted (ops := ops) h hk2 with ⟨hw, hst, hk⟩ | ⟨hw, _, hk⟩
        · unfold semOp at hk
          simp only [ho] at hk
          obtain ⟨c1, c2, c3, hk⟩ := hk
          obtain ⟨v, hv, hy⟩ := qLoad_sound (P := P) (s := s) (σ := σ) c1 c2 c3 hk
          obtain ⟨y, b, off, hp', hyr, ht, hlp, hip⟩ := hy cx w (a.eval x) h.heap h.box (h.tr x)
          have hb : B.still b := by
            cases hx : ev s x with
            | lp d off' =>
              rw [hlp d off' hx]
              have hsd' : T.sd d = true := by simpa [steady, hx] using hst
              have hl : ∃ cells, s.l d = some cells := by
                rw [hx] at hk
                unfold qLoad at hk
                cases hld : s.l d with
                | none => simp [hld] at hk
                | some cells => exact ⟨cells, rfl⟩
              obtain ⟨cells, hl⟩ := hl
              exact h2 d cells hsd' hl
            | ip es i' off' => exact h1 b (hip es i' off' hx)
            | _ => simp [steady, hx] at hst
          refine take (.inl ⟨hw, fun w' hw' => ?_⟩) ht hv hr hf
          have := hyr w' ((hw' b hb).trans (h.stab b hb).symm)
          simp [execOp, ho, this]
        · exact take (.inr ⟨hw, rfl⟩) (.v (.c undef)) hk hr hf
      · have hB1 : Region.ready .any ops listed = [i] := by simpa using hB1
        refine wpAnyH_all (rs := [i]) hB1 (by simp) (fun j hj => ?_)
        have hj : j = i := by simpa using hj
        subst hj
        have next : ∀ a' w', KC B n (semT P T n ops.toList (ops.toList.map (·.dst)) r K) a' w' → stillW B w' ∧ wpAnyH P .any ops (onlyN Q) (stillW B) r.len (listed.setIfInBounds j true) a' w' := fun a' w' ⟨cx', s', σ', h', hk'⟩ =>
          ⟨h'.stillW, wpAnyH_mono (S' := stillW (B.re cx' s'.l T.sd w')) (fun w'' hw g hg => (hw g (.inl hg)).trans (h'.stab g hg)) _ _ _ _
            (semT_sound hT hs r early _ rfl (fun a'' w'' ⟨cx2, s2, σ2, h2, hk2⟩ => hQ a'' w'' ⟨cx2, s2, σ2, h2.ofRe hsd (fun g hg => h'.stab g hg), hk2⟩) hB2 (h'.re hsd)
              (fun _ => ⟨fun g hg => .inr (.inl hg), fun d cells hd hl => .inr (.inr ⟨d, cells, hd, hl, rfl⟩)⟩) hk')⟩
        unfold wpOp
        simp only [hi']
        rcases gate_wanted (ops := ops) h hk with ⟨hw, hk⟩ | ⟨hw, hk⟩
        · simp only [hw, if_true]
          exact .inl (Oper.wp_mono next (sem_sound hT hsd hd h hk))
        · simp only [hw, Bool.false_eq_true, if_false]
          exact next _ _ ⟨cx, _, σ, h.putO (dOK_spec hd) (.v (.c undef)), hk⟩

  | .fork i ra j rb, early, listed, B, hsd, hQ, cx, s, σ, a, w, hB, h, he, hk => by
    simp only [schedT, Bool.and_eq_true] at hB
    obtain ⟨⟨⟨hB1, hlen⟩, hBa⟩, hBb⟩ := hB
    have hlen : ra.len = rb.len := by simpa using hlen
    have hB1 : Region.ready .any ops listed = [i, j] := by simpa using hB1
    simp only [semT] at hk
    have go : ∀ (q : Nat) (r : Tr), r.len = ra.len → schedT P ops r early (listed.setIfInBounds q true) = true → (∀ {B : Base} (_hsd : B.sd = T.sd) (_hQ : ∀ a w, KC B n K a w → Q a w) {cx : Cx} {s : St} {σ : Hp} {a : Act} {w : World}, SR B n cx s σ a w →
        (early = true → (∀ g, cx.I g → B.still g) ∧ (∀ d cells, T.sd d = true → s.l d = some cells → B.still (cx.L d))) →
        semT P T n ops.toList (ops.toList.map (·.dst)) r K s σ → wpAnyH P .any ops (onlyN Q) (stillW B) r.len (listed.setIfInBounds q true) a w) →
        one P T n ops.toList (ops.toList.map (·.dst)) q 2 (semT P T n ops.toList (ops.toList.map (·.dst)) r K) s σ → wpOp P ops (onlyN Q) q (fun a' w' => stillW B w' ∧ wpAnyH P .any ops (onlyN Q) (stillW B) ra.len (listed.setIfInBounds q true) a' w') a w := fun q r hl hBr ih hk => by
      simp only [one] at hk
      cases hi : ops.toList[q]? with
      | none => simp [hi] at hk
      | some o =>
        simp only [hi] at hk
        obtain ⟨hd, hst, hk⟩ := hk
        have hi' : ops[q]? = some o := by simpa using hi
        have next : ∀ a' w', KC B n (semT P T n ops.toList (ops.toList.map (·.dst)) r K) a' w' → stillW B w' ∧ wpAnyH P .any ops (onlyN Q) (stillW B) ra.len (listed.setIfInBounds q true) a' w' := fun a' w' ⟨cx', s', σ', h', hk'⟩ =>
          ⟨h'.stillW, wpAnyH_mono (S' := stillW (B.re cx' s'.l T.sd w')) (fun w'' hw g hg => (hw g (.inl hg)).trans (h'.stab g hg)) _ _ _ _
            (hl ▸ ih rfl (fun a'' w'' ⟨cx2, s2, σ2, h2, hk2⟩ => hQ a'' w'' ⟨cx2, s2, σ2, h2.ofRe hsd (fun g hg => h'.stab g hg), hk2⟩) (h'.re hsd)
              (fun _ => ⟨fun g hg => .inr (.inl hg), fun d cells hd hl => .inr (.inr ⟨d, cells, hd, hl, rfl⟩)⟩) hk')⟩
        unfold wpOp
        simp only [hi']
        rcases gate_wanted (ops := ops) h hk with ⟨hw, hk⟩ | ⟨hw, hk⟩
        · simp only [hw, if_true]
          exact .inl (Oper.wp_mono next (sem_sound hT hsd hd h hk))
        · simp only [hw, Bool.false_eq_true, if_false]
          exact next _ _ ⟨cx, _, σ, h.putO (dOK_spec hd) (.v (.c undef)), hk⟩
    refine wpAnyH_all (rs := [i, j]) hB1 (by simp) (fun q hq => ?_)
    rcases List.mem_cons.1 hq with rfl | hq
    · exact go q ra rfl hBa (fun {B} hsd hQ {cx s σ a w} h he hk => semT_sound hT hs ra early _ hsd hQ hBa h he hk) hk.1
    · have hq : q = j := by simpa using hq
      subst hq
      exact go q rb hlen.symm hBb (fun {B} hsd hQ {cx s σ a w} h he hk => semT_sound hT hs rb early _ hsd hQ hBb h he hk) hk.2

/-- A region that draws its order, by a schedule that parts. -/
theorem AW.drawT {Q : Exit → St → Hp → Prop} (hT : T.ok P) (hm : P.follows .mixedOrders = true) {id : Nat} {l : List Oper} (t : Tr) (hlen : t.len = l.length) (hs : Region.noSelect l.toArray = true)
    (hB : schedF P l t true (List.replicate l.length false) = true) (h : semT P T n l (l.map (·.dst)) t (fun s σ => Q .normal s σ) s σ) : AW P n (.region id l.toArray true) Q s σ :=
  fun B cx a w h1 _ h3 => by
    have hB : schedT P l.toArray t true (Array.replicate l.length false) = true := by
      rw [schedF_eq _ _ _ _ _ (by simp)] at hB
      exact hB
    have h4 := h3.drew
    have h5 := h4.toAt T.sd
    refine wp_mono (Q := onlyN (fun a w => QC B n Q .normal a w)) (wp_region_held (S := stillW (B.at cx s.l T.sd w.drew)) hm ?_) (fun e a w hq => by cases e <;> first | exact hq | exact hq.elim)
    have := semT_sound hT hs (Q := fun a w => QC B n Q .normal a w) (K := fun s σ => Q .normal s σ)
      t true (Array.replicate l.length false) (B := B.at cx s.l T.sd w.drew) rfl (fun a w ⟨cx', s', σ', h6, h7⟩ => ⟨cx', s', σ', h6.ofAt h1, h7⟩) hB h5 (fun _ => ⟨fun g hg => .inl hg, fun d cells hd hl => .inr ⟨d, cells, hd, hl, rfl⟩⟩) (by simpa using h)
    rw [hlen] at this
    simpa using this
/-- The two orders of two, then the rest. -/
def Tr.of : List (Nat × Nat) → Tr
  | [] => .nil
  | (i, 3) :: (j, _) :: r => .fork i (.st j 2 (Tr.of r)) j (.st i 2 (Tr.of r))
  | (i, k) :: r => .st i k (Tr.of r)
section
variable {ops : List Oper} {i k d j : Nat} {r : Tr} {o : Oper} {ds : List (Option Nat)} {b : Bool}
theorem T.g (ho : ops[i]? = some o) (hs : stC T s k o.op) (hd : okd n o.dst = true) (hg : o.guard = none)
    (h : ∀ K' : St → Hp → Prop, (∀ s σ, semT P T n ops ds r K s σ → K' s σ) → semOp P T o K' s σ) : semT P T n ops ds (.st i k r) K s σ := by
  have := D.g (P := P) (T := T) (n := n) (s := s) (σ := σ) (K := semT P T n ops ds r K) (ds := ds) (ops := ops) (i := i) (k := k) (l := []) ho hs hd hg h
  exact this
theorem T.y (ho : ops[i]? = some o) (hs : stC T s k o.op) (hd : okd n o.dst = true) (hg : o.guard = some (j, b)) (hj : ds[j]? = some (some d)) (hb : s.t d = .c (.bool b))
    (h : ∀ K' : St → Hp → Prop, (∀ s σ, semT P T n ops ds r K s σ → K' s σ) → semOp P T o K' s σ) : semT P T n ops ds (.st i k r) K s σ := by
  have := D.y (P := P) (T := T) (n := n) (s := s) (σ := σ) (K := semT P T n ops ds r K) (ds := ds) (ops := ops) (i := i) (k := k) (l := []) ho hs hd hg hj hb h
  exact this
theorem T.x (ho : ops[i]? = some o) (hk : k = 1 → isLoad o.op = true) (hd : okd n o.dst = true) (hg : o.guard = some (j, b)) (hj : ds[j]? = some (some d)) (hb : s.t d = .c (.bool (!b)))
    (h : ∀ K' : St → Hp → Prop, (∀ s σ, semT P T n ops ds r K s σ → K' s σ) → K' (s.putO o.dst (.c undef)) σ) : semT P T n ops ds (.st i k r) K s σ := by
  have := D.x (P := P) (T := T) (n := n) (s := s) (σ := σ) (K := semT P T n ops ds r K) (ds := ds) (ops := ops) (i := i) (k := k) (l := []) ho hk hd hg hj hb h
  exact this
theorem T.u (ho : ops[i]? = some o) (hk : k = 1 → isLoad o.op = true) (hd : okd n o.dst = true) (hg : o.guard = some (j, b)) (hj : ds[j]? = some (some d)) (hb : s.t d = .c undef)
    (h : ∀ K' : St → Hp → Prop, (∀ s σ, semT P T n ops ds r K s σ → K' s σ) → K' (s.putO o.dst (.c undef)) σ) : semT P T n ops ds (.st i k r) K s σ := by
  have := D.u (P := P) (T := T) (n := n) (s := s) (σ := σ) (K := semT P T n ops ds r K) (ds := ds) (ops := ops) (i := i) (k := k) (l := []) ho hk hd hg hj hb h
  exact this
theorem T.nil (h : K s σ) : semT P T n ops ds .nil K s σ := h
/-- Only so much of the state is wanted from here on. -/
theorem T.cut {t : Tr} (J : St → Hp → Prop) (h : J s σ) (k : ∀ s σ, J s σ → semT P T n ops ds t K s σ) : semT P T n ops ds t K s σ := k s σ h
theorem D.cut {t : List (Nat × Nat)} (J : St → Hp → Prop) (h : J s σ) (k : ∀ s σ, J s σ → semD P T n ops ds t K s σ) : semD P T n ops ds t K s σ := k s σ h
theorem S.cut {r : List Oper} (J : St → Hp → Prop) (h : J s σ) (k : ∀ s σ, J s σ → semL P T n ds r K s σ) : semL P T n ds r K s σ := k s σ h
theorem AW.cut {c : Code} {Q : Exit → St → Hp → Prop} (J : St → Hp → Prop) (h : J s σ) (k : ∀ s σ, J s σ → AW P n c Q s σ) : AW P n c Q s σ := k s σ h
theorem T.fork {a c : Tr} (h1 : semT P T n ops ds (.st i 2 a) K s σ) (h2 : semT P T n ops ds (.st j 2 c) K s σ) : semT P T n ops ds (.fork i a j c) K s σ := ⟨h1, h2⟩
end
end
end Go.Abs
namespace Go.Abs
open Go

section
variable {P : Program} {T : Tab} {B : Base} {n : Nat} {cx cx' : Cx} {s : St} {σ σ' : Hp} {a : Act} {w w' : World} {K : St → Hp → Prop}

/-! #### schedules that part: at a fork either of two operations may come first -/
inductive Tf where
  | nil
  | st (i k : Nat) (t : Tf)
  | fork (i : Nat) (a : Tf) (j : Nat) (b : Tf)
  | fork3 (i : Nat) (a : Tf) (j : Nat) (b : Tf) (k : Nat) (c : Tf)
def Tf.len : Tf → Nat
  | .nil => 0
  | .st _ _ t => t.len + 1
  | .fork _ a _ _ => a.len + 1
  | .fork3 _ a _ _ _ _ => a.len + 1
def semF (P : Program) (T : Tab) (n : Nat) (ops : List Oper) (ds : List (Option Nat)) : Tf → (St → Hp → Prop) → St → Hp → Prop
  | .nil, K => K
  | .st i k r, K => one P T n ops ds i k (semF P T n ops ds r K)
  | .fork i a j b, K => fun s σ => one P T n ops ds i 2 (semF P T n ops ds a K) s σ ∧ one P T n ops ds j 2 (semF P T n ops ds b K) s σ
  | .fork3 i a j b k c, K => fun s σ => one P T n ops ds i 2 (semF P T n ops ds a K) s σ ∧ one P T n ops ds j 2 (semF P T n ops ds b K) s σ ∧ one P T n ops ds k 2 (semF P T n ops ds c K) s σ
def schedG (P : Program) (ops : Array Oper) : Tf → Bool → Array Bool → Bool
  | .nil, _, listed => (Region.ready .any ops listed).isEmpty
  | .st i k r, early, listed =>
    (match k with
     | 0 => ((ops[i]?).map fun o => pureOp P o.op).getD false && (Region.ready .any ops listed).contains i && Region.free .any ops listed i
     | 1 => early && ((ops[i]?).map fun o => isLoad o.op).getD false && (Region.ready .any ops listed).contains i && Region.free .any ops listed i
     | _ => Region.ready .any ops listed == [i]) &&
    schedG P ops r early (listed.setIfInBounds i true)
  | .fork i a j b, early, listed => Region.ready .any ops listed == [i, j] && a.len == b.len && schedG P ops a early (listed.setIfInBounds i true) && schedG P ops b early (listed.setIfInBounds j true)
  | .fork3 i a j b k c, early, listed => Region.ready .any ops listed == [i, j, k] && (a.len == b.len && a.len == c.len) && schedG P ops a early (listed.setIfInBounds i true) && schedG P ops b early (listed.setIfInBounds j true) && schedG P ops c early (listed.setIfInBounds k true)

/-- The same look, its list written out at each step, and read side by side with the operations. -/
def schedH (P : Program) (ops : List Oper) : Tf → Bool → List Bool → Bool
  | .nil, _, l => (rdy ops l).isEmpty
  | .st i k r, early, l =>
    (match k with
     | 0 => ((ops[i]?).map fun o => pureOp P o.op).getD false && (rdy ops l).contains i && fre ops l i
     | 1 => early && ((ops[i]?).map fun o => isLoad o.op).getD false && (rdy ops l).contains i && fre ops l i
     | _ => rdy ops l == [i]) &&
    forceL (setL l i) fun m => schedH P ops r early m
  | .fork i a j b, early, l => rdy ops l == [i, j] && a.len == b.len && (forceL (setL l i) fun m => schedH P ops a early m) && (forceL (setL l j) fun m => schedH P ops b early m)
  | .fork3 i a j b k c, early, l => rdy ops l == [i, j, k] && (a.len == b.len && a.len == c.len) && (forceL (setL l i) fun m => schedH P ops a early m) && (forceL (setL l j) fun m => schedH P ops b early m) && (forceL (setL l k) fun m => schedH P ops c early m)
theorem schedH_eq (P : Program) (ops : List Oper) : ∀ (t : Tf) (early : Bool) (l : List Bool), l.length = ops.length → schedH P ops t early l = schedG P ⟨ops⟩ t early ⟨l⟩
  | .nil, _, _, h => by simp only [schedH, schedG, rdy_eq h]
  | .st i k r, early, l, h => by
    simp only [schedH, schedG, forceL_eq, schedH_eq P ops r early (setL l i) ((setL_len l i).trans h), rdy_eq h, fre_eq h, List.getElem?_toArray, List.setIfInBounds_toArray]
    rw [setL_eq]
  | .fork i a j b, early, l, h => by
    simp only [schedH, schedG, forceL_eq, schedH_eq P ops a early (setL l i) ((setL_len l i).trans h), schedH_eq P ops b early (setL l j) ((setL_len l j).trans h), rdy_eq h, List.setIfInBounds_toArray]
    rw [setL_eq, setL_eq]
  | .fork3 i a j b k c, early, l, h => by
    simp only [schedH, schedG, forceL_eq, schedH_eq P ops a early (setL l i) ((setL_len l i).trans h), schedH_eq P ops b early (setL l j) ((setL_len l j).trans h), schedH_eq P ops c early (setL l k) ((setL_len l k).trans h), rdy_eq h, List.setIfInBounds_toArray]
    rw [setL_eq, setL_eq, setL_eq]

theorem semF_sound (hT : T.ok P) {ops : Array Oper} (hs : Region.noSelect ops = true) {Q : Act → World → Prop} :
    ∀ (sched : Tf) (early : Bool) (listed : Array Bool) {B : Base} (_hsd : B.sd = T.sd) (_hQ : ∀ a w, KC B n K a w → Q a w) {cx : Cx} {s : St} {σ : Hp} {a : Act} {w : World}, schedG P ops sched early listed = true → SR B n cx s σ a w →
    (early = true → (∀ g, cx.I g → B.still g) ∧ (∀ d cells, T.sd d = true → s.l d = some cells → B.still (cx.L d))) →
    semF P T n ops.toList (ops.toList.map (·.dst)) sched K s σ → wpAnyH P .any ops (onlyN Q) (stillW B) sched.len listed a w
  | .nil, early, listed, B, hsd, hQ, cx, s, σ, a, w, hB, h, he, hk => by
    simp only [schedG, List.isEmpty_iff] at hB
    exact wpAnyH_done hB (hQ a w ⟨cx, s, σ, h, hk⟩) 0
  | .st i k r, early, listed, B, hsd, hQ, cx, s, σ, a, w, hB, h, he, hk => by
    simp only [schedG, Bool.and_eq_true] at hB
    obtain ⟨hB1, hB2⟩ := hB
    simp only [semF, one] at hk
    cases hi : ops.toList[i]? with
    | none => simp [hi] at hk
    | some o =>
      simp only [hi] at hk
      obtain ⟨hd, hst, hk⟩ := hk
      have hi' : ops[i]? = some o := by simpa using hi
      have take : ∀ {v : V} {x : Value}, (Region.wanted o (yielded ops a.tmps) = true ∧ (∀ w', stillW B w' → (execOp a.eval o).run P w' = .ok (.value x) w') ∨ Region.wanted o (yielded ops a.tmps) = false ∧ x = undef) → TR w cx v x →
          semF P T n ops.toList (ops.toList.map (·.dst)) r K (s.putO o.dst v) σ → (Region.ready .any ops listed).contains i = true → Region.free .any ops listed i = true →
          wpAnyH P .any ops (onlyN Q) (stillW B) (Tf.st i k r).len listed a w := fun {v x} hy hv hkr hr hf => by
        have h' := h.putO (dOK_spec hd) hv
        refine wpAnyH_take hi' hs hf hr (fun _ _ _ hq => hq.elim) (v := x) hy h.stillW ?_
        refine semF_sound hT hs r early _ hsd hQ hB2 h' (fun e1 => ?_) hkr
        obtain ⟨h1, h2⟩ := he e1
        refine ⟨h1, fun d cells hsd' hd' => h2 d cells hsd' ?_⟩
        cases hdst : o.dst with
        | none => rw [hdst] at hd'; exact hd'
        | some e => rw [hdst] at hd'; exact hd'
      rcases k with _ | _ | k
      · simp only [hi', Option.map_some, Option.getD_some, Bool.and_eq_true] at hB1
        obtain ⟨⟨hp, hr⟩, hf⟩ := hB1
        rcases gate_wanted (ops := ops) h hk with ⟨hw, hk⟩ | ⟨hw, hk⟩
        · obtain ⟨v, hv, hy⟩ := sem_pure hT hp hk
          obtain ⟨x, hx, ht⟩ := hy h
          exact take (.inl ⟨hw, fun w' _ => hx w'⟩) ht hv hr hf
        · exact take (.inr ⟨hw, rfl⟩) (.v (.c undef)) hk hr hf
      · simp only [hi', Option.map_some, Option.getD_some, Bool.and_eq_true] at hB1
        obtain ⟨⟨⟨hea, hp⟩, hr⟩, hf⟩ := hB1
        obtain ⟨h1, h2⟩ := he hea
        cases ho : o.op <;> simp only [ho, isLoad] at hp hst <;> try (cases hp; done)
        rename_i t x
        have hk2 := gate_and hst hk
        rcases gate_wanted (ops := ops) h hk2 with ⟨hw, hst, hk⟩ | ⟨hw, _, hk⟩
        · unfold semOp at hk
          simp only [ho] at hk
          obtain ⟨c1, c2, c3, hk⟩ := hk
          obtain ⟨v, hv, hy⟩ := qLoad_sound (P := P) (s := s) (σ := σ) c1 c2 c3 hk
          obtain ⟨y, b, off, hp', hyr, ht, hlp, hip⟩ := hy cx w (a.eval x) h.heap h.box (h.tr x)
          have hb : B.still b := by
            cases hx : ev s x with
            | lp d off' =>
              rw [hlp d off' hx]
              have hsd' : T.sd d = true := by simpa [steady, hx] using hst
              have hl : ∃ cells, s.l d = some cells := by
                rw [hx] at hk
                unfold qLoad at hk
                cases hld : s.l d with
                | none => simp [hld] at hk
                | some cells => exact ⟨cells, rfl⟩
              obtain ⟨cells, hl⟩ := hl
              exact h2 d cells hsd' hl
            | ip es i' off' => exact h1 b (hip es i' off' hx)
            | _ => simp [steady, hx] at hst
          refine take (.inl ⟨hw, fun w' hw' => ?_⟩) ht hv hr hf
          have := hyr w' ((hw' b hb).trans (h.stab b hb).symm)
          simp [execOp, ho, this]
        · exact take (.inr ⟨hw, rfl⟩) (.v (.c undef)) hk hr hf
      · have hB1 : Region.ready .any ops listed = [i] := by simpa using hB1
        refine wpAnyH_all (rs := [i]) hB1 (by simp) (fun j hj => ?_)
        have hj : j = i := by simpa using hj
        subst hj
        have next : ∀ a' w', KC B n (semF P T n ops.toList (ops.toList.map (·.dst)) r K) a' w' → stillW B w' ∧ wpAnyH P .any ops (onlyN Q) (stillW B) r.len (listed.setIfInBounds j true) a' w' := fun a' w' ⟨cx', s', σ', h', hk'⟩ =>
          ⟨h'.stillW, wpAnyH_mono (S' := stillW (B.re cx' s'.l T.sd w')) (fun w'' hw g hg => (hw g (.inl hg)).trans (h'.stab g hg)) _ _ _ _
            (semF_sound hT hs r early _ rfl (fun a'' w'' ⟨cx2, s2, σ2, h2, hk2⟩ => hQ a'' w'' ⟨cx2, s2, σ2, h2.ofRe hsd (fun g hg => h'.stab g hg), hk2⟩) hB2 (h'.re hsd)
              (fun _ => ⟨fun g hg => .inr (.inl hg), fun d cells hd hl => .inr (.inr ⟨d, cells, hd, hl, rfl⟩)⟩) hk')⟩
        unfold wpOp
        simp only [hi']
        rcases gate_wanted (ops := ops) h hk with ⟨hw, hk⟩ | ⟨hw, hk⟩
        · simp only [hw, if_true]
          exact .inl (Oper.wp_mono next (sem_sound hT hsd hd h hk))
        · simp only [hw, Bool.false_eq_true, if_false]
          exact next _ _ ⟨cx, _, σ, h.putO (dOK_spec hd) (.v (.c undef)), hk⟩

  | .fork i ra j rb, early, listed, B, hsd, hQ, cx, s, σ, a, w, hB, h, he, hk => by
    simp only [schedG, Bool.and_eq_true] at hB
    obtain ⟨⟨⟨hB1, hlen⟩, hBa⟩, hBb⟩ := hB
    have hlen : ra.len = rb.len := by simpa using hlen
    have hB1 : Region.ready .any ops listed = [i, j] := by simpa using hB1
    simp only [semF] at hk
    have go : ∀ (q : Nat) (r : Tf), r.len = ra.len → schedG P ops r early (listed.setIfInBounds q true) = true → (∀ {B : Base} (_hsd : B.sd = T.sd) (_hQ : ∀ a w, KC B n K a w → Q a w) {cx : Cx} {s : St} {σ : Hp} {a : Act} {w : World}, SR B n cx s σ a w →
        (early = true → (∀ g, cx.I g → B.still g) ∧ (∀ d cells, T.sd d = true → s.l d = some cells → B.still (cx.L d))) →
        semF P T n ops.toList (ops.toList.map (·.dst)) r K s σ → wpAnyH P .any ops (onlyN Q) (stillW B) r.len (listed.setIfInBounds q true) a w) →
        one P T n ops.toList (ops.toList.map (·.dst)) q 2 (semF P T n ops.toList (ops.toList.map (·.dst)) r K) s σ → wpOp P ops (onlyN Q) q (fun a' w' => stillW B w' ∧ wpAnyH P .any ops (onlyN Q) (stillW B) ra.len (listed.setIfInBounds q true) a' w') a w := fun q r hl hBr ih hk => by
      simp only [one] at hk
      cases hi : ops.toList[q]? with
      | none => simp [hi] at hk
      | some o =>
        simp only [hi] at hk
        obtain ⟨hd, hst, hk⟩ := hk
        have hi' : ops[q]? = some o := by simpa using hi
        have next : ∀ a' w', KC B n (semF P T n ops.toList (ops.toList.map (·.dst)) r K) a' w' → stillW B w' ∧ wpAnyH P .any ops (onlyN Q) (stillW B) ra.len (listed.setIfInBounds q true) a' w' := fun a' w' ⟨cx', s', σ', h', hk'⟩ =>
          ⟨h'.stillW, wpAnyH_mono (S' := stillW (B.re cx' s'.l T.sd w')) (fun w'' hw g hg => (hw g (.inl hg)).trans (h'.stab g hg)) _ _ _ _
            (hl ▸ ih rfl (fun a'' w'' ⟨cx2, s2, σ2, h2, hk2⟩ => hQ a'' w'' ⟨cx2, s2, σ2, h2.ofRe hsd (fun g hg => h'.stab g hg), hk2⟩) (h'.re hsd)
              (fun _ => ⟨fun g hg => .inr (.inl hg), fun d cells hd hl => .inr (.inr ⟨d, cells, hd, hl, rfl⟩)⟩) hk')⟩
        unfold wpOp
        simp only [hi']
        rcases gate_wanted (ops := ops) h hk with ⟨hw, hk⟩ | ⟨hw, hk⟩
        · simp only [hw, if_true]
          exact .inl (Oper.wp_mono next (sem_sound hT hsd hd h hk))
        · simp only [hw, Bool.false_eq_true, if_false]
          exact next _ _ ⟨cx, _, σ, h.putO (dOK_spec hd) (.v (.c undef)), hk⟩
    refine wpAnyH_all (rs := [i, j]) hB1 (by simp) (fun q hq => ?_)
    rcases List.mem_cons.1 hq with rfl | hq
    · exact go q ra rfl hBa (fun {B} hsd hQ {cx s σ a w} h he hk => semF_sound hT hs ra early _ hsd hQ hBa h he hk) hk.1
    · have hq : q = j := by simpa using hq
      subst hq
      exact go q rb hlen.symm hBb (fun {B} hsd hQ {cx s σ a w} h he hk => semF_sound hT hs rb early _ hsd hQ hBb h he hk) hk.2

  | .fork3 i ra j rb k rc, early, listed, B, hsd, hQ, cx, s, σ, a, w, hB, h, he, hk => by
    simp only [schedG, Bool.and_eq_true] at hB
    obtain ⟨⟨⟨⟨hB1, hlen, hlen2⟩, hBa⟩, hBb⟩, hBc⟩ := hB
    have hlen : ra.len = rb.len := by simpa using hlen
    have hlen2 : ra.len = rc.len := by simpa using hlen2
    have hB1 : Region.ready .any ops listed = [i, j, k] := by simpa using hB1
    simp only [semF] at hk
    have go : ∀ (q : Nat) (r : Tf), r.len = ra.len → schedG P ops r early (listed.setIfInBounds q true) = true → (∀ {B : Base} (_hsd : B.sd = T.sd) (_hQ : ∀ a w, KC B n K a w → Q a w) {cx : Cx} {s : St} {σ : Hp} {a : Act} {w : World}, SR B n cx s σ a w →
        (early = true → (∀ g, cx.I g → B.still g) ∧ (∀ d cells, T.sd d = true → s.l d = some cells → B.still (cx.L d))) →
        semF P T n ops.toList (ops.toList.map (·.dst)) r K s σ → wpAnyH P .any ops (onlyN Q) (stillW B) r.len (listed.setIfInBounds q true) a w) →
        one P T n ops.toList (ops.toList.map (·.dst)) q 2 (semF P T n ops.toList (ops.toList.map (·.dst)) r K) s σ → wpOp P ops (onlyN Q) q (fun a' w' => stillW B w' ∧ wpAnyH P .any ops (onlyN Q) (stillW B) ra.len (listed.setIfInBounds q true) a' w') a w := fun q r hl hBr ih hk => by
      simp only [one] at hk
      cases hi : ops.toList[q]? with
      | none => simp [hi] at hk
      | some o =>
        simp only [hi] at hk
        obtain ⟨hd, hst, hk⟩ := hk
        have hi' : ops[q]? = some o := by simpa using hi
        have next : ∀ a' w', KC B n (semF P T n ops.toList (ops.toList.map (·.dst)) r K) a' w' → stillW B w' ∧ wpAnyH P .any ops (onlyN Q) (stillW B) ra.len (listed.setIfInBounds q true) a' w' := fun a' w' ⟨cx', s', σ', h', hk'⟩ =>
          ⟨h'.stillW, wpAnyH_mono (S' := stillW (B.re cx' s'.l T.sd w')) (fun w'' hw g hg => (hw g (.inl hg)).trans (h'.stab g hg)) _ _ _ _
            (hl ▸ ih rfl (fun a'' w'' ⟨cx2, s2, σ2, h2, hk2⟩ => hQ a'' w'' ⟨cx2, s2, σ2, h2.ofRe hsd (fun g hg => h'.stab g hg), hk2⟩) (h'.re hsd)
              (fun _ => ⟨fun g hg => .inr (.inl hg), fun d cells hd hl => .inr (.inr ⟨d, cells, hd, hl, rfl⟩)⟩) hk')⟩
        unfold wpOp
        simp only [hi']
        rcases gate_wanted (ops := ops) h hk with ⟨hw, hk⟩ | ⟨hw, hk⟩
        · simp only [hw, if_true]
          exact .inl (Oper.wp_mono next (sem_sound hT hsd hd h hk))
        · simp only [hw, Bool.false_eq_true, if_false]
          exact next _ _ ⟨cx, _, σ, h.putO (dOK_spec hd) (.v (.c undef)), hk⟩
    refine wpAnyH_all (rs := [i, j, k]) hB1 (by simp) (fun q hq => ?_)
    rcases List.mem_cons.1 hq with rfl | hq
    · exact go q ra rfl hBa (fun {B} hsd hQ {cx s σ a w} h he hk => semF_sound hT hs ra early _ hsd hQ hBa h he hk) hk.1
    rcases List.mem_cons.1 hq with rfl | hq
    · exact go q rb hlen.symm hBb (fun {B} hsd hQ {cx s σ a w} h he hk => semF_sound hT hs rb early _ hsd hQ hBb h he hk) hk.2.1
    · have hq : q = k := by simpa using hq
      subst hq
      exact go q rc hlen2.symm hBc (fun {B} hsd hQ {cx s σ a w} h he hk => semF_sound hT hs rc early _ hsd hQ hBc h he hk) hk.2.2

/-- A region that draws its order, by a schedule that parts. -/
theorem AW.drawF {Q : Exit → St → Hp → Prop} (hT : T.ok P) (hm : P.follows .mixedOrders = true) {id : Nat} {l : List Oper} (t : Tf) (hlen : t.len = l.length) (hs : Region.noSelect l.toArray = true)
    (hB : schedH P l t true (List.replicate l.length false) = true) (h : semF P T n l (l.map (·.dst)) t (fun s σ => Q .normal s σ) s σ) : AW P n (.region id l.toArray true) Q s σ :=
  fun B cx a w h1 _ h3 => by
    have hB : schedG P l.toArray t true (Array.replicate l.length false) = true := by
      rw [schedH_eq _ _ _ _ _ (by simp)] at hB
      exact hB
    have h4 := h3.drew
    have h5 := h4.toAt T.sd
    refine wp_mono (Q := onlyN (fun a w => QC B n Q .normal a w)) (wp_region_held (S := stillW (B.at cx s.l T.sd w.drew)) hm ?_) (fun e a w hq => by cases e <;> first | exact hq | exact hq.elim)
    have := semF_sound hT hs (Q := fun a w => QC B n Q .normal a w) (K := fun s σ => Q .normal s σ)
      t true (Array.replicate l.length false) (B := B.at cx s.l T.sd w.drew) rfl (fun a w ⟨cx', s', σ', h6, h7⟩ => ⟨cx', s', σ', h6.ofAt h1, h7⟩) hB h5 (fun _ => ⟨fun g hg => .inl hg, fun d cells hd hl => .inr ⟨d, cells, hd, hl, rfl⟩⟩) (by simpa using h)
    rw [hlen] at this
    simpa using this
section
variable {ops : List Oper} {i k d j : Nat} {r : Tf} {o : Oper} {ds : List (Option Nat)} {b : Bool}
theorem F.g (ho : ops[i]? = some o) (hs : stC T s k o.op) (hd : okd n o.dst = true) (hg : o.guard = none)
    (h : ∀ K' : St → Hp → Prop, (∀ s σ, semF P T n ops ds r K s σ → K' s σ) → semOp P T o K' s σ) : semF P T n ops ds (.st i k r) K s σ := by
  have := D.g (P := P) (T := T) (n := n) (s := s) (σ := σ) (K := semF P T n ops ds r K) (ds := ds) (ops := ops) (i := i) (k := k) (l := []) ho hs hd hg h
  exact this
theorem F.y (ho : ops[i]? = some o) (hs : stC T s k o.op) (hd : okd n o.dst = true) (hg : o.guard = some (j, b)) (hj : ds[j]? = some (some d)) (hb : s.t d = .c (.bool b))
    (h : ∀ K' : St → Hp → Prop, (∀ s σ, semF P T n ops ds r K s σ → K' s σ) → semOp P T o K' s σ) : semF P T n ops ds (.st i k r) K s σ := by
  have := D.y (P := P) (T := T) (n := n) (s := s) (σ := σ) (K := semF P T n ops ds r K) (ds := ds) (ops := ops) (i := i) (k := k) (l := []) ho hs hd hg hj hb h
  exact this
theorem F.x (ho : ops[i]? = some o) (hk : k = 1 → isLoad o.op = true) (hd : okd n o.dst = true) (hg : o.guard = some (j, b)) (hj : ds[j]? = some (some d)) (hb : s.t d = .c (.bool (!b)))
    (h : ∀ K' : St → Hp → Prop, (∀ s σ, semF P T n ops ds r K s σ → K' s σ) → K' (s.putO o.dst (.c undef)) σ) : semF P T n ops ds (.st i k r) K s σ := by
  have := D.x (P := P) (T := T) (n := n) (s := s) (σ := σ) (K := semF P T n ops ds r K) (ds := ds) (ops := ops) (i := i) (k := k) (l := []) ho hk hd hg hj hb h
  exact this
theorem F.u (ho : ops[i]? = some o) (hk : k = 1 → isLoad o.op = true) (hd : okd n o.dst = true) (hg : o.guard = some (j, b)) (hj : ds[j]? = some (some d)) (hb : s.t d = .c undef)
    (h : ∀ K' : St → Hp → Prop, (∀ s σ, semF P T n ops ds r K s σ → K' s σ) → K' (s.putO o.dst (.c undef)) σ) : semF P T n ops ds (.st i k r) K s σ := by
  have := D.u (P := P) (T := T) (n := n) (s := s) (σ := σ) (K := semF P T n ops ds r K) (ds := ds) (ops := ops) (i := i) (k := k) (l := []) ho hk hd hg hj hb h
  exact this
theorem F.nil (h : K s σ) : semF P T n ops ds .nil K s σ := h
/-- Only so much of the state is wanted from here on. -/
theorem F.cut {t : Tf} (J : St → Hp → Prop) (h : J s σ) (k : ∀ s σ, J s σ → semF P T n ops ds t K s σ) : semF P T n ops ds t K s σ := k s σ h
theorem F.fork3 {a c e : Tf} {q : Nat} (h1 : semF P T n ops ds (.st i 2 a) K s σ) (h2 : semF P T n ops ds (.st j 2 c) K s σ) (h3 : semF P T n ops ds (.st q 2 e) K s σ) : semF P T n ops ds (.fork3 i a j c q e) K s σ := ⟨h1, h2, h3⟩
theorem F.fork {a c : Tf} (h1 : semF P T n ops ds (.st i 2 a) K s σ) (h2 : semF P T n ops ds (.st j 2 c) K s σ) : semF P T n ops ds (.fork i a j c) K s σ := ⟨h1, h2⟩
end
end
end Go.Abs
namespace Go.Abs
open Go
section
variable {P : Program} {σ : Hp}
/-- A call whose result is a list that grows: the result, frozen. -/
theorem ACalls.freeze {f : FuncId} {args : List V} {R R' : V → Hp → Prop} (h : ACalls P f args σ R)
    (hr : ∀ v σ', R v σ' → ∃ k T es, v = .gl k ∧ σ'.gr k = some (T, es) ∧ R' (.sl es) (σ'.setGr k none)) : ACalls P f args σ R' := by
  refine ⟨h.1, fun cx w xs hH ha => (h.2 cx w xs hH ha).mono fun e w' ⟨v, r, cx', σ', h1, h2, h3, h4⟩ => ?_⟩
  obtain ⟨k, T, es, rfl, hk, hR⟩ := hr v σ' h4
  obtain ⟨cx2, hle, hL, hI, hH2, hv⟩ := h3.heap.freeze hk
  have hsub : ∀ g, (σ'.setGr k none).own cx2 g → σ'.own cx' g := fun g hg => by
    rcases hg with ⟨c, hc⟩ | ⟨j, x, hj, hb⟩
    · exact .inl ⟨c, hc⟩
    · by_cases ej : j = k
      · simp [Hp.setGr, ej] at hj
      · simp only [Hp.setGr, ej, if_false] at hj
        have hjn := (h3.heap.gr j x.1 x.2 hj).1
        rw [hle.M j hjn] at hb
        exact .inr ⟨j, x, hj, hb⟩
  have hcx : r = cx'.M k := by cases h2; rfl
  refine ⟨.sl es, r, cx2, σ'.setGr k none, h1, hcx ▸ hv, ⟨hH2, ⟨h3.ext.os, h3.ext.tape, h3.ext.output, h3.ext.size, h3.ext.block, h3.ext.le.trans hle, fun g hg => ?_, fun g hg => h3.ext.fnew g (hsub g hg)⟩, fun j x hj => ?_, fun g x hg => h3.onew g x hg⟩, hR⟩
  · rcases hI g hg with hg | hg
    · exact h3.ext.inew g hg
    · rcases h3.ext.fnew g (.inr ⟨k, _, hk, hg⟩) with h | h
      · exact .inr (.inl h)
      · exact .inr (.inr h)
  · by_cases ej : j = k
    · simp [Hp.setGr, ej] at hj
    · simp only [Hp.setGr, ej, if_false] at hj
      exact h3.gnew j x hj
end
end Go.Abs
namespace Go.Abs
open Go

section
variable {P : Program}
theorem run_append_room_zeros (w : World) (t tn ty e : TypeId) (i : TypeInfo) (z : Value) (kq kn : IntKind) (ht : P.underlying t = some (.slice e)) (htn : P.underlying tn = some (.int kn)) (hi : P.info? e = some i) (hz : i.zero = some z)
    (g sLen sCap : Nat) (cur : Array Value) (hg : w.heap[g]? = some (.cells cur e (0, 0))) (k : Nat) (h0 : 0 < k) (hs : 0 < i.size) (h1 : ∀ u ∈ (Builtin.zeroCells z.cells k).toList, u.oneCell' = true)
    (hroom : sLen + k ≤ sCap) (hfit : sLen * i.size + (Builtin.zeroCells z.cells k).toList.length ≤ cur.size) (h63 : (k : Int) ≤ 9223372036854775807) (h48 : k * i.bytes ≤ 281474976710656) :
    (Builtin.append_ #[t, tn] ty #[.slice (some ⟨g, 0, none⟩) sLen sCap, .int kq k]).run P w =
      .ok (.slice (some ⟨g, 0, none⟩) (sLen + k) sCap) (w.setRow g (cur.toList.take (sLen * i.size) ++ (Builtin.zeroCells z.cells k).toList ++ cur.toList.drop (sLen * i.size + (Builtin.zeroCells z.cells k).toList.length)).toArray) := by
  have hk : k ≠ 0 := by omega
  have hw : IntKind.i64.wrap (k : Int) = k := by rw [IntKind.wrap_i64]; omega
  have h48i : ¬ (281474976710656 < (k : Int) * (i.bytes : Int)) := by
    rw [← Int.natCast_mul]
    omega
  have hneg : ¬ ((k : Int) < 0) := by omega
  have hns : ¬ (k * i.size = 0) := Nat.mul_ne_zero hk (by omega)
  have hst := run_storeCells_at P g (sLen * i.size) e (Builtin.zeroCells z.cells k).toList 0 cur w hg (by simpa using hfit) h1
  simp only [Nat.add_zero] at hst
  simp [Builtin.append_, run_underlying ht, run_underlying htn, sizeOf, typeInfo, zeroValue, hi, hz, asInt, asIntOf, hw, hneg, hns, h48i, hroom, Addr.add_lit, hst]
theorem run_append_ownN (w : World) (t tn ty e : TypeId) (i : TypeInfo) (z : Value) (kq kn : IntKind) (ht : P.underlying t = some (.slice e)) (htn : P.underlying tn = some (.int kn)) (hi : P.info? e = some i) (hz : i.zero = some z)
    (hzs : z.cells.size = i.size) (hsz : 0 < i.size) (v : Value) (n : Nat) (xs : List Value) (hown : w.ownsRow 0 e i.size v n xs) (k : Nat) (h0 : 0 < k) (h1 : ∀ u ∈ (Builtin.zeroCells z.cells k).toList, u.oneCell' = true)
    (h63 : n + k ≤ maxLen) (hbytes : (n + k) * i.bytes ≤ 140737488355328) :
    ∃ v' w', (Builtin.append_ #[t, tn] ty #[v, .int kq k]).run P w = .ok v' w' ∧ w'.ownsRow 0 e i.size v' (n + k) (xs ++ (Builtin.zeroCells z.cells k).toList) ∧ w.grownBy w' v.ownBlock ∧
      (v'.ownBlock = v.ownBlock ∨ v'.ownBlock = some w.heap.size ∨ v'.ownBlock = none) := by
  have hsmall : n + k ≤ 9223372036854775807 := by simp only [maxLen] at h63; omega
  have hkb : k * i.bytes ≤ 140737488355328 := Nat.le_trans (Nat.mul_le_mul_right _ (by omega)) hbytes
  have hl : (Builtin.zeroCells z.cells k).toList.length = k * i.size := by rw [Array.length_toList, size_zeroCells, hzs]
  have hlen : (xs ++ (Builtin.zeroCells z.cells k).toList).length = (n + k) * i.size := by rw [List.length_append, hown.1, hl, Nat.add_mul]
  generalize hN : (Builtin.zeroCells z.cells k).toList = news at *
  have hNa : Builtin.zeroCells z.cells k = news.toArray := by rw [← hN]
  have grown : ∀ (old : Nat), old < n + k → ∀ (row : Option Nat),
      (w.drew.alloc (.cells (xs.toArray ++ news.toArray ++ Builtin.zeroCells z.cells (grownCap w (n + k) old e - (n + k))) e)).ownsRow 0 e i.size
        (.slice (some ⟨w.heap.size, 0, none⟩) (n + k) (grownCap w (n + k) old e)) (n + k) (xs ++ news) ∧
      w.grownBy (w.drew.alloc (.cells (xs.toArray ++ news.toArray ++ Builtin.zeroCells z.cells (grownCap w (n + k) old e - (n + k))) e)) row := by
    intro old ho row
    have hge := grownCap_ge w (n + k) old e
    have hcm : grownCap w (n + k) old e ≤ maxLen := grownCap_le_maxLen w (n + k) old e h63
    refine ⟨⟨hlen, .inr ⟨w.heap.size, _, _, rfl, Nat.zero_le _, heap_alloc_new w.drew _, hge, hcm, ?_, ?_⟩⟩, ⟨rfl, rfl, rfl, by simp, fun k hk hne => (World.grownBy_alloc w.drew _ row).block k hk hne⟩⟩
    · simp only [Array.size_append, List.size_toArray, size_zeroCells, hzs, hown.1, hl, ← Nat.add_mul]
      congr 1
      omega
    · simp only [Array.toList_append, List.append_assoc]
      rw [← List.append_assoc, ← hlen]
      exact List.take_left
  rcases hown.2 with ⟨rfl, rfl⟩ | ⟨g, cap, cur, rfl, hbg, hg, hnc, hcm, hcs, htake⟩
  · have hx : xs = [] := List.eq_nil_of_length_eq_zero (by simpa using hown.1)
    subst hx
    have hr := Lib.run_append_grow_zeros (P := P) w t tn ty e i z kq kn ht htn hi hz none 0 0 [] (run_firstCells_none w.drew i.size 0 0 0) k h0 hsz (by omega) (by omega) (by omega) (growslice_fits (by omega) hbytes)
    rw [hNa] at hr
    have hgr := grown 0 (by omega) (Value.ownBlock (.slice none 0 0))
    exact ⟨_, _, hr, hgr.1, hgr.2, .inr (.inl rfl)⟩
  · by_cases hroom : n + k ≤ cap
    · have hfit : n * i.size + news.length ≤ cur.size := by rw [hl, hcs, ← Nat.add_mul]; exact Nat.mul_le_mul_right _ hroom
      have hr := run_append_room_zeros (P := P) w t tn ty e i z kq kn ht htn hi hz g n cap cur hg k h0 hsz (by rw [hN]; exact h1) hroom (by rw [hN]; exact hfit) (by omega) (by omega)
      rw [hN] at hr
      refine ⟨_, _, hr, ⟨hlen, .inr ⟨g, cap, _, rfl, hbg, setRow_heap w g cur _ e _ hg, hroom, hcm, ?_, ?_⟩⟩, ⟨rfl, rfl, rfl, by simp, fun k _ hk => setRow_other w g k _ (fun e => hk (by simp [Value.ownBlock, e]))⟩, .inl rfl⟩
      · simp only [List.size_toArray, List.length_append, List.length_take, List.length_drop, Array.length_toList]
        omega
      · rw [htake, ← hlen]
        exact List.take_left
    · have holds : ∀ j u, xs[j]? = some u → w.cell? ((⟨g, 0, none⟩ : Addr).add j) = some u := hown.cells (g := g) rfl
      have hr := Lib.run_append_grow_zeros (P := P) w t tn ty e i z kq kn ht htn hi hz (some ⟨g, 0, none⟩) n cap xs (run_firstCells_some (P := P) w.drew i.size n ⟨g, 0, none⟩ n cap xs hown.1 holds) k h0 hsz (by omega) (by omega) (by omega) (growslice_fits (by omega) hbytes)
      rw [hNa] at hr
      have hgr := grown cap (by omega) (Value.ownBlock (.slice (some ⟨g, 0, none⟩) n cap))
      exact ⟨_, _, hr, hgr.1, hgr.2, .inr (.inl rfl)⟩
end
section
variable {P : Program} {T : Tab} {B : Base} {n : Nat} {cx cx' : Cx} {s : St} {σ σ' : Hp} {a : Act} {w w' : World} {K : St → Hp → Prop}
/-- append of a make, to a list of the call's own. -/
def semAppendG (P : Program) (t : TypeId) (x y : V) (d : Option Nat) (K : St → Hp → Prop) (s : St) (σ : Hp) : Prop :=
  match dstE σ (P.elem t) (szT P (P.elem t)) x, y with
  | some (ok, es), .c (.int _ c) => ∃ z, zeroT P (P.elem t) = some z ∧ slT P t = true ∧ szT P (P.elem t) ≠ 0 ∧ z.cells.size = szT P (P.elem t) ∧ oneAll z.cells.toList = true ∧ 0 < c ∧ es.length + c.toNat ≤ maxLen ∧
      (es.length + c.toNat) * P.bytesOf (P.elem t) ≤ reach ∧
      ∀ k', (σ.delO ok).gr k' = none → K (s.putO d (.gl k')) ((σ.delO ok).setGr k' (some ((P.elem t, szT P (P.elem t)), es ++ List.replicate c.toNat (z.cells.toList.map .c))))
  | _, _ => False
theorem semAppendG_sound {o : Oper} {Q : Exit → Act → World → Prop} {t t' : TypeId} {ki : IntKind} {x y : Operand} (hti : P.underlying t' = some (.int ki)) (ho : o.op = .call { callee := .builtin .append, args := #[x, y], argTypes := #[t, t'] }) (hd : dOK n o.dst)
    (h : SR B n cx s σ a w) (hk : semAppendG P t (ev s x) (ev s y) o.dst K s σ) : o.wp P a w (KC B n K) Q := by
  unfold semAppendG at hk
  cases hdE : dstE σ (P.elem t) (szT P (P.elem t)) (ev s x) with
  | none => simp [hdE] at hk
  | some de =>
    obtain ⟨ok, es⟩ := de
    simp only [hdE] at hk
    split at hk
    · rename_i ok' es' kc c he hy
      injection he with he
      injection he with e1 e2
      subst e1; subst e2
      obtain ⟨z, hzt, ht, hz, hzs, hone, h0, hmax, hby, hk⟩ := hk
      obtain ⟨i, hi, hisz, hib, hiz⟩ := info_of_size hz
      obtain ⟨xs, hown, hxs, hel, hone', hblk⟩ := dst_row h.heap (h.tr x) hdE
      have hyv := h.tr y
      rw [hy] at hyv
      obtain ⟨k, rfl⟩ : ∃ k : Nat, c = (k : Int) := ⟨c.toNat, by omega⟩
      rw [Int.toNat_natCast] at hmax hby hk
      have hk0 : 0 < k := by omega
      have hrow : (Builtin.zeroCells z.cells k).toList = (madeCells z.cells (k * szT P (P.elem t))).toList := by rw [zeroCells_eq, hzs]
      have hmade := made_VRs (w := w) (cx := cx) (z := z.cells) (sz := szT P (P.elem t)) (l := k) hone hzs hz
      obtain ⟨v', w', hr, hown', hg, hb⟩ := run_append_ownN (P := P) w t t' o.type (P.elem t) i z kc ki (slT_eq ht) hti hi (by rw [← hiz]; exact hzt) (hzs.trans hisz.symm) (by omega) (a.eval x) es.length xs (by rw [hisz]; exact hown) k hk0
        (by rw [hrow]; exact hmade.2.1) hmax (by rw [hib]; exact hby)
      rw [hisz, hrow] at hown'
      have hrun : (execOp a.eval o).run P w = .ok (.value v') w' := by
        simp [execOp, ho, resolve, invoke, builtin, hyv.c_eq, hr]
      have hs := h.grown (ok := ok) (T := P.elem t) (sz := szT P (P.elem t)) (es' := es ++ List.replicate k (z.cells.toList.map V.c)) hblk (by rw [List.length_append, List.length_replicate]; exact hown') hg hb (by rw [List.flatten_append]; exact hxs.append hmade)
        (fun e he => by
          rcases List.mem_append.1 he with h1 | h1
          · exact hel e h1
          · rw [List.eq_of_mem_replicate h1]; simpa using hzs)
      have hsome : v'.oneCell' = true := by
        rcases hown'.2 with ⟨e, _⟩ | ⟨g, cap, cur, e, _⟩ <;> rw [e] <;> rfl
      have hvr : VR w' (cx.addG v' (szT P (P.elem t))) (.gl cx.nm) v' := by
        have := VR.gl (w := w') (cx := cx.addG v' (szT P (P.elem t))) (k := cx.nm) (Nat.lt_succ_self _) (by rw [Cx.addG_M]; exact hsome)
        rwa [Cx.addG_M] at this
      exact wp_new hd hrun hs (.v hvr) (hk cx.nm (delO_new ok h.heap))
    · exact hk.elim
/-- A region in order, where an append of a make may stand. -/
def semX (P : Program) (T : Tab) (o : Oper) (K : St → Hp → Prop) (s : St) (σ : Hp) : Prop :=
  semOp P T o K s σ ∨ ∃ t t' x y ki, P.underlying t' = some (.int ki) ∧ o.op = .call { callee := .builtin .append, args := #[x, y], argTypes := #[t, t'] } ∧ semAppendG P t (ev s x) (ev s y) o.dst K s σ
def semLX (P : Program) (T : Tab) (n : Nat) : List Oper → (St → Hp → Prop) → St → Hp → Prop
  | [], K, s, σ => K s σ
  | o :: r, K, s, σ => dOK n o.dst ∧ o.guard = none ∧ semX P T o (semLX P T n r K) s σ
theorem semLX_sound (hT : T.ok P) (hsd : B.sd = T.sd) {ops : Array Oper} {Q : Exit → Act → World → Prop} : ∀ (l : List Oper) {cx : Cx} {s : St} {σ : Hp} {a : Act} {w : World}, SR B n cx s σ a w → (∀ a w, KC B n K a w → Q .normal a w) →
    semLX P T n l K s σ → wpList P ops Q l a w
  | [], cx, s, σ, a, w, h, hQ, hk => hQ a w ⟨cx, s, σ, h, hk⟩
  | o :: r, cx, s, σ, a, w, h, hQ, hk => by
    simp only [semLX] at hk
    obtain ⟨hd, hg, hk⟩ := hk
    have next : ∀ a' w', KC B n (semLX P T n r K) a' w' → wpList P ops Q r a' w' := fun a' w' ⟨cx', s', σ', h', hk'⟩ => semLX_sound hT hsd r h' hQ hk'
    have hw : Region.wanted o (yielded ops a.tmps) = true := by unfold Region.wanted; rw [hg]
    simp only [wpList, hw, if_true]
    rcases hk with hk | ⟨t, t', x, y, ki, h1, h2, hk⟩
    · exact .inl (Oper.wp_mono next (sem_sound hT hsd hd h hk))
    · exact .inl (Oper.wp_mono next (semAppendG_sound h1 h2 hd h hk))
theorem AW.regX {Q : Exit → St → Hp → Prop} {id : Nat} {l : List Oper} (h : semLX P {} n l (fun s σ => Q .normal s σ) s σ) : AW P n (.region id l.toArray false) Q s σ :=
  fun B cx a w _ h2 h3 => wp_region_lit (semLX_sound (T := {}) (fun _ _ h => by cases h) (h2.trans rfl) (ops := l.toArray) l h3 (fun a w ⟨cx, s, σ, h4, h5⟩ => ⟨cx, s, σ, h4, h5⟩) h)
theorem XS.g {o : Oper} {r : List Oper} (hd : okd n o.dst = true) (hg : o.guard = none) (h : semOp P T o (semLX P T n r K) s σ) : semLX P T n (o :: r) K s σ := ⟨okd_ok hd, hg, .inl h⟩
theorem XS.mk {o : Oper} {r : List Oper} {t t' : TypeId} {x y : Operand} {ki : IntKind} (hd : okd n o.dst = true) (hg : o.guard = none) (h1 : P.underlying t' = some (.int ki)) (h2 : o.op = .call { callee := .builtin .append, args := #[x, y], argTypes := #[t, t'] })
    (h : semAppendG P t (ev s x) (ev s y) o.dst (semLX P T n r K) s σ) : semLX P T n (o :: r) K s σ := ⟨okd_ok hd, hg, .inr ⟨t, t', x, y, ki, h1, h2, h⟩⟩
end
end Go.Abs
