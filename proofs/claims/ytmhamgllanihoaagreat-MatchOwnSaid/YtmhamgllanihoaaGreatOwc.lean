import Derived.Test.YtmhamgllanihoaaGreatOwb
import Derived.Laws.Append
import Derived.RangeFuncCalls
import Derived.RangeFuncBound
namespace Go.Abs
open Go
section
variable {P : Program} {T : Tab} {B : Base} {n : Nat} {cx cx' : Cx} {s : St} {σ σ' : Hp} {a : Act} {w w' : World} {K : St → Hp → Prop}
inductive Tf where
  | nil
  | st (i k : Nat) (t : Tf)
  | fork (i : Nat) (a : Tf) (j : Nat) (b : Tf)
  | fork3 (i : Nat) (a : Tf) (j : Nat) (b : Tf) (k : Nat) (c : Tf)
def Tf.len : Tf → Nat
  | .nil => 0
  | .st _ _ t => t.len + 1
  | .fork _ a _ _ => a.len + 1
  | .fork3 _ a _ _ _ _ => a.len + 1
def semF (P : Program) (T : Tab) (n : Nat) (ops : List Oper) (ds : List (Option Nat)) : Tf → (St → Hp → Prop) → St → Hp → Prop
  | .nil, K => K
  | .st i k r, K => one P T n ops ds i k (semF P T n ops ds r K)
  | .fork i a j b, K => fun s σ => one P T n ops ds i 2 (semF P T n ops ds a K) s σ ∧ one P T n ops ds j 2 (semF P T n ops ds b K) s σ
  | .fork3 i a j b k c, K => fun s σ => one P T n ops ds i 2 (semF P T n ops ds a K) s σ ∧ one P T n ops ds j 2 (semF P T n ops ds b K) s σ ∧ one P T n ops ds k 2 (semF P T n ops ds c K) s σ
def schedG (P : Program) (ops : Array Oper) : Tf → Bool → Array Bool → Bool
  | .nil, _, listed => (Region.ready .any ops listed).isEmpty
  | .st i k r, early, listed =>
    (match k with
     | 0 => ((ops[i]?).map fun o => pureOp P o.op).getD false && (Region.ready .any ops listed).contains i && Region.free .any ops listed i
     | 1 => early && ((ops[i]?).map fun o => isLoad o.op).getD false && (Region.ready .any ops listed).contains i && Region.free .any ops listed i
     | _ => Region.ready .any ops listed == [i]) &&
    schedG P ops r early (listed.setIfInBounds i true)
  | .fork i a j b, early, listed => Region.ready .any ops listed == [i, j] && a.len == b.len && schedG P ops a early (listed.setIfInBounds i true) && schedG P ops b early (listed.setIfInBounds j true)
  | .fork3 i a j b k c, early, listed => Region.ready .any ops listed == [i, j, k] && (a.len == b.len && a.len == c.len) && schedG P ops a early (listed.setIfInBounds i true) && schedG P ops b early (listed.setIfInBounds j true) && schedG P ops c early (listed.setIfInBounds k true)
/-- The same look, its list written out at each step, and read side by side with the operations. -/
def schedH (P : Program) (ops : List Oper) : Tf → Bool → List Bool → Bool
  | .nil, _, l => (rdy ops l).isEmpty
  | .st i k r, early, l =>
    (match k with
     | 0 => ((ops[i]?).map fun o => pureOp P o.op).getD false && (rdy ops l).contains i && fre ops l i
     | 1 => early && ((ops[i]?).map fun o => isLoad o.op).getD false && (rdy ops l).contains i && fre ops l i
     | _ => rdy ops l == [i]) &&
    forceL (setL l i) fun m => schedH P ops r early m
  | .fork i a j b, early, l => rdy ops l == [i, j] && a.len == b.len && (forceL (setL l i) fun m => schedH P ops a early m) && (forceL (setL l j) fun m => schedH P ops b early m)
  | .fork3 i a j b k c, early, l => rdy ops l == [i, j, k] && (a.len == b.len && a.len == c.len) && (forceL (setL l i) fun m => schedH P ops a early m) && (forceL (setL l j) fun m => schedH P ops b early m) && (forceL (setL l k) fun m => schedH P ops c early m)
theorem schedH_eq (P : Program) (ops : List Oper) : ∀ (t : Tf) (early : Bool) (l : List Bool), l.length = ops.length → schedH P ops t early l = schedG P ⟨ops⟩ t early ⟨l⟩
  | .nil, _, _, h => by simp only [schedH, schedG, rdy_eq h]
  | .st i k r, early, l, h => by
    simp only [schedH, schedG, forceL_eq, schedH_eq P ops r early (setL l i) ((setL_len l i).trans h), rdy_eq h, fre_eq h, List.getElem?_toArray, List.setIfInBounds_toArray]
    rw [setL_eq]
  | .fork i a j b, early, l, h => by
    simp only [schedH, schedG, forceL_eq, schedH_eq P ops a early (setL l i) ((setL_len l i).trans h), schedH_eq P ops b early (setL l j) ((setL_len l j).trans h), rdy_eq h, List.setIfInBounds_toArray]
    rw [setL_eq, setL_eq]
  | .fork3 i a j b k c, early, l, h => by
    simp only [schedH, schedG, forceL_eq, schedH_eq P ops a early (setL l i) ((setL_len l i).trans h), schedH_eq P ops b early (setL l j) ((setL_len l j).trans h), schedH_eq P ops c early (setL l k) ((setL_len l k).trans h), rdy_eq h, List.setIfInBounds_toArray]
    rw [setL_eq, setL_eq, setL_eq]
theorem semF_sound (hT : T.ok P) {ops : Array Oper} (hs : Region.noSelect ops = true) {Q : Act → World → Prop} :
    ∀ (sched : Tf) (early : Bool) (listed : Array Bool) {B : Base} (_hsd : B.sd = T.sd) (_hQ : ∀ a w, KC B n K a w → Q a w) {cx : Cx} {s : St} {σ : Hp} {a : Act} {w : World}, schedG P ops sched early listed = true → SR B n cx s σ a w →
    (early = true → (∀ g, cx.I g → B.still g) ∧ (∀ d cells, T.sd d = true → s.l d = some cells → B.still (cx.L d))) →
    semF P T n ops.toList (ops.toList.map (·.dst)) sched K s σ → wpAnyH P .any ops (onlyN Q) (stillW B) sched.len listed a w
  | .nil, early, listed, B, hsd, hQ, cx, s, σ, a, w, hB, h, he, hk => by
    simp only [schedG, List.isEmpty_iff] at hB
    exact wpAnyH_done hB (hQ a w ⟨cx, s, σ, h, hk⟩) 0
  | .st i k r, early, listed, B, hsd, hQ, cx, s, σ, a, w, hB, h, he, hk => by
    simp only [schedG, Bool.and_eq_true] at hB
    obtain ⟨hB1, hB2⟩ := hB
    simp only [semF, one] at hk
    cases hi : ops.toList[i]? with
    | none => simp [hi] at hk
    | some o =>
      simp only [hi] at hk
      obtain ⟨hd, hst, hk⟩ := hk
      have hi' : ops[i]? = some o := by simpa using hi
      have take : ∀ {v : V} {x : Value}, (Region.wanted o (yielded ops a.tmps) = true ∧ (∀ w', stillW B w' → (execOp a.eval o).run P w' = .ok (.value x) w') ∨ Region.wanted o (yielded ops a.tmps) = false ∧ x = undef) → TR w cx v x →
          semF P T n ops.toList (ops.toList.map (·.dst)) r K (s.putO o.dst v) σ → (Region.ready .any ops listed).contains i = true → Region.free .any ops listed i = true →
          wpAnyH P .any ops (onlyN Q) (stillW B) (Tf.st i k r).len listed a w := fun {v x} hy hv hkr hr hf => by
        have h' := h.putO (dOK_spec hd) hv
        refine wpAnyH_take hi' hs hf hr (fun _ _ _ hq => hq.elim) (v := x) hy h.stillW ?_
        refine semF_sound hT hs r early _ hsd hQ hB2 h' (fun e1 => ?_) hkr
        obtain ⟨h1, h2⟩ := he e1
        refine ⟨h1, fun d cells hsd' hd' => h2 d cells hsd' ?_⟩
        cases hdst : o.dst with
        | none => rw [hdst] at hd'; exact hd'
        | some e => rw [hdst] at hd'; exact hd'
      rcases k with _ | _ | k
      · simp only [hi', Option.map_some, Option.getD_some, Bool.and_eq_true] at hB1
        obtain ⟨⟨hp, hr⟩, hf⟩ := hB1
        rcases gate_wanted (ops := ops) h hk with ⟨hw, hk⟩ | ⟨hw, hk⟩
        · obtain ⟨v, hv, hy⟩ := sem_pure hT hp hk
          obtain ⟨x, hx, ht⟩ := hy h
          exact take (.inl ⟨hw, fun w' _ => hx w'⟩) ht hv hr hf
        · exact take (.inr ⟨hw, rfl⟩) (.v (.c undef)) hk hr hf
      · simp only [hi', Option.map_some, Option.getD_some, Bool.and_eq_true] at hB1
        obtain ⟨⟨⟨hea, hp⟩, hr⟩, hf⟩ := hB1
        obtain ⟨h1, h2⟩ := he hea
        cases ho : o.op <;> simp only [ho, isLoad] at hp hst <;> try (cases hp; done)
        rename_i t x
        have hk2 := gate_and hst hk
        rcases gate_wanted (ops := ops) h hk2 with ⟨hw, hst, hk⟩ | ⟨hw, _, hk⟩
        · unfold semOp at hk
          simp only [ho] at hk
          obtain ⟨c1, c2, c3, hk⟩ := hk
          obtain ⟨v, hv, hy⟩ := qLoad_sound (P := P) (s := s) (σ := σ) c1 c2 c3 hk
          obtain ⟨y, b, off, hp', hyr, ht, hlp, hip⟩ := hy cx w (a.eval x) h.heap h.box (h.tr x)
          have hb : B.still b := by
            cases hx : ev s x with
            | lp d off' =>
              rw [hlp d off' hx]
              have hsd' : T.sd d = true := by simpa [steady, hx] using hst
              have hl : ∃ cells, s.l d = some cells := by
                rw [hx] at hk
                unfold qLoad at hk
                cases hld : s.l d with
                | none => simp [hld] at hk
                | some cells => exact ⟨cells, rfl⟩
              obtain ⟨cells, hl⟩ := hl
              exact h2 d cells hsd' hl
            | ip es i' off' => exact h1 b (hip es i' off' hx)
            | _ => simp [steady, hx] at hst
          refine take (.inl ⟨hw, fun w' hw' => ?_⟩) ht hv hr hf
          have := hyr w' ((hw' b hb).trans (h.stab b hb).symm)
          simp [execOp, ho, this]
        · exact take (.inr ⟨hw, rfl⟩) (.v (.c undef)) hk hr hf
      · have hB1 : Region.ready .any ops listed = [i] := by simpa using hB1
        refine wpAnyH_all (rs := [i]) hB1 (by simp) (fun j hj => ?_)
        have hj : j = i := by simpa using hj
        subst hj
        have next : ∀ a' w', KC B n (semF P T n ops.toList (ops.toList.map (·.dst)) r K) a' w' → stillW B w' ∧ wpAnyH P .any ops (onlyN Q) (stillW B) r.len (listed.setIfInBounds j true) a' w' := fun a' w' ⟨cx', s', σ', h', hk'⟩ =>
          ⟨h'.stillW, wpAnyH_mono (S' := stillW (B.re cx' s'.l T.sd w')) (fun w'' hw g hg => (hw g (.inl hg)).trans (h'.stab g hg)) _ _ _ _
            (semF_sound hT hs r early _ rfl (fun a'' w'' ⟨cx2, s2, σ2, h2, hk2⟩ => hQ a'' w'' ⟨cx2, s2, σ2, h2.ofRe hsd (fun g hg => h'.stab g hg), hk2⟩) hB2 (h'.re hsd)
              (fun _ => ⟨fun g hg => .inr (.inl hg), fun d cells hd hl => .inr (.inr ⟨d, cells, hd, hl, rfl⟩)⟩) hk')⟩
        unfold wpOp
        simp only [hi']
        rcases gate_wanted (ops := ops) h hk with ⟨hw, hk⟩ | ⟨hw, hk⟩
        · simp only [hw, if_true]
          exact .inl (Oper.wp_mono next (sem_sound hT hsd hd h hk))
        · simp only [hw, Bool.false_eq_true, if_false]
          exact next _ _ ⟨cx, _, σ, h.putO (dOK_spec hd) (.v (.c undef)), hk⟩

  | .fork i ra j rb, early, listed, B, hsd, hQ, cx, s, σ, a, w, hB, h, he, hk => by
    simp only [schedG, Bool.and_eq_true] at hB
    obtain ⟨⟨⟨hB1, hlen⟩, hBa⟩, hBb⟩ := hB
    have hlen : ra.len = rb.len := by simpa using hlen
    have hB1 : Region.ready .any ops listed = [i, j] := by simpa using hB1
    simp only [semF] at hk
    have go : ∀ (q : Nat) (r : Tf), r.len = ra.len → schedG P ops r early (listed.setIfInBounds q true) = true → (∀ {B : Base} (_hsd : B.sd = T.sd) (_hQ : ∀ a w, KC B n K a w → Q a w) {cx : Cx} {s : St} {σ : Hp} {a : Act} {w : World}, SR B n cx s σ a w →
        (early = true → (∀ g, cx.I g → B.still g) ∧ (∀ d cells, T.sd d = true → s.l d = some cells → B.still (cx.L d))) →
        semF P T n ops.toList (ops.toList.map (·.dst)) r K s σ → wpAnyH P .any ops (onlyN Q) (stillW B) r.len (listed.setIfInBounds q true) a w) →
        one P T n ops.toList (ops.toList.map (·.dst)) q 2 (semF P T n ops.toList (ops.toList.map (·.dst)) r K) s σ → wpOp P ops (onlyN Q) q (fun a' w' => stillW B w' ∧ wpAnyH P .any ops (onlyN Q) (stillW B) ra.len (listed.setIfInBounds q true) a' w') a w := fun q r hl hBr ih hk => by
      simp only [one] at hk
      cases hi : ops.toList[q]? with
      | none => simp [hi] at hk
      | some o =>
        simp only [hi] at hk
        obtain ⟨hd, hst, hk⟩ := hk
        have hi' : ops[q]? = some o := by simpa using hi
        have next : ∀ a' w', KC B n (semF P T n ops.toList (ops.toList.map (·.dst)) r K) a' w' → stillW B w' ∧ wpAnyH P .any ops (onlyN Q) (stillW B) ra.len (listed.setIfInBounds q true) a' w' := fun a' w' ⟨cx', s', σ', h', hk'⟩ =>
          ⟨h'.stillW, wpAnyH_mono (S' := stillW (B.re cx' s'.l T.sd w')) (fun w'' hw g hg => (hw g (.inl hg)).trans (h'.stab g hg)) _ _ _ _
            (hl ▸ ih rfl (fun a'' w'' ⟨cx2, s2, σ2, h2, hk2⟩ => hQ a'' w'' ⟨cx2, s2, σ2, h2.ofRe hsd (fun g hg => h'.stab g hg), hk2⟩) (h'.re hsd)
              (fun _ => ⟨fun g hg => .inr (.inl hg), fun d cells hd hl => .inr (.inr ⟨d, cells, hd, hl, rfl⟩)⟩) hk')⟩
        unfold wpOp
        simp only [hi']
        rcases gate_wanted (ops := ops) h hk with ⟨hw, hk⟩ | ⟨hw, hk⟩
        · simp only [hw, if_true]
          exact .inl (Oper.wp_mono next (sem_sound hT hsd hd h hk))
        · simp only [hw, Bool.false_eq_true, if_false]
          exact next _ _ ⟨cx, _, σ, h.putO (dOK_spec hd) (.v (.c undef)), hk⟩
    refine wpAnyH_all (rs := [i, j]) hB1 (by simp) (fun q hq => ?_)
    rcases List.mem_cons.1 hq with rfl | hq
    · exact go q ra rfl hBa (fun {B} hsd hQ {cx s σ a w} h he hk => semF_sound hT hs ra early _ hsd hQ hBa h he hk) hk.1
    · have hq : q = j := by simpa using hq
      subst hq
      exact go q rb hlen.symm hBb (fun {B} hsd hQ {cx s σ a w} h he hk => semF_sound hT hs rb early _ hsd hQ hBb h he hk) hk.2

  | .fork3 i ra j rb k rc, early, listed, B, hsd, hQ, cx, s, σ, a, w, hB, h, he, hk => by
    simp only [schedG, Bool.and_eq_true] at hB
    obtain ⟨⟨⟨⟨hB1, hlen, hlen2⟩, hBa⟩, hBb⟩, hBc⟩ := hB
    have hlen : ra.len = rb.len := by simpa using hlen
    have hlen2 : ra.len = rc.len := by simpa using hlen2
    have hB1 : Region.ready .any ops listed = [i, j, k] := by simpa using hB1
    simp only [semF] at hk
    have go : ∀ (q : Nat) (r : Tf), r.len = ra.len → schedG P ops r early (listed.setIfInBounds q true) = true → (∀ {B : Base} (_hsd : B.sd = T.sd) (_hQ : ∀ a w, KC B n K a w → Q a w) {cx : Cx} {s : St} {σ : Hp} {a : Act} {w : World}, SR B n cx s σ a w →
        (early = true → (∀ g, cx.I g → B.still g) ∧ (∀ d cells, T.sd d = true → s.l d = some cells → B.still (cx.L d))) →
        semF P T n ops.toList (ops.toList.map (·.dst)) r K s σ → wpAnyH P .any ops (onlyN Q) (stillW B) r.len (listed.setIfInBounds q true) a w) →
        one P T n ops.toList (ops.toList.map (·.dst)) q 2 (semF P T n ops.toList (ops.toList.map (·.dst)) r K) s σ → wpOp P ops (onlyN Q) q (fun a' w' => stillW B w' ∧ wpAnyH P .any ops (onlyN Q) (stillW B) ra.len (listed.setIfInBounds q true) a' w') a w := fun q r hl hBr ih hk => by
      simp only [one] at hk
      cases hi : ops.toList[q]? with
      | none => simp [hi] at hk
      | some o =>
        simp only [hi] at hk
        obtain ⟨hd, hst, hk⟩ := hk
        have hi' : ops[q]? = some o := by simpa using hi
        have next : ∀ a' w', KC B n (semF P T n ops.toList (ops.toList.map (·.dst)) r K) a' w' → stillW B w' ∧ wpAnyH P .any ops (onlyN Q) (stillW B) ra.len (listed.setIfInBounds q true) a' w' := fun a' w' ⟨cx', s', σ', h', hk'⟩ =>
          ⟨h'.stillW, wpAnyH_mono (S' := stillW (B.re cx' s'.l T.sd w')) (fun w'' hw g hg => (hw g (.inl hg)).trans (h'.stab g hg)) _ _ _ _
            (hl ▸ ih rfl (fun a'' w'' ⟨cx2, s2, σ2, h2, hk2⟩ => hQ a'' w'' ⟨cx2, s2, σ2, h2.ofRe hsd (fun g hg => h'.stab g hg), hk2⟩) (h'.re hsd)
              (fun _ => ⟨fun g hg => .inr (.inl hg), fun d cells hd hl => .inr (.inr ⟨d, cells, hd, hl, rfl⟩)⟩) hk')⟩
        unfold wpOp
        simp only [hi']
        rcases gate_wanted (ops := ops) h hk with ⟨hw, hk⟩ | ⟨hw, hk⟩
        · simp only [hw, if_true]
          exact .inl (Oper.wp_mono next (sem_sound hT hsd hd h hk))
        · simp only [hw, Bool.false_eq_true, if_false]
          exact next _ _ ⟨cx, _, σ, h.putO (dOK_spec hd) (.v (.c undef)), hk⟩
    refine wpAnyH_all (rs := [i, j, k]) hB1 (by simp) (fun q hq => ?_)
    rcases List.mem_cons.1 hq with rfl | hq
    · exact go q ra rfl hBa (fun {B} hsd hQ {cx s σ a w} h he hk => semF_sound hT hs ra early _ hsd hQ hBa h he hk) hk.1
    rcases List.mem_cons.1 hq with rfl | hq
    · exact go q rb hlen.symm hBb (fun {B} hsd hQ {cx s σ a w} h he hk => semF_sound hT hs rb early _ hsd hQ hBb h he hk) hk.2.1
    · have hq : q = k := by simpa using hq
      subst hq
      exact go q rc hlen2.symm hBc (fun {B} hsd hQ {cx s σ a w} h he hk => semF_sound hT hs rc early _ hsd hQ hBc h he hk) hk.2.2
/-- A region that draws its order, by a schedule that parts. -/
theorem AW.drawF {Q : Exit → St → Hp → Prop} (hT : T.ok P) (hm : P.follows .mixedOrders = true) {id : Nat} {l : List Oper} (t : Tf) (hlen : t.len = l.length) (hs : Region.noSelect l.toArray = true)
    (hB : schedH P l t true (List.replicate l.length false) = true) (h : semF P T n l (l.map (·.dst)) t (fun s σ => Q .normal s σ) s σ) : AW P n (.region id l.toArray true) Q s σ :=
  fun B cx a w h1 _ h3 => by
    have hB : schedG P l.toArray t true (Array.replicate l.length false) = true := by
      rw [schedH_eq _ _ _ _ _ (by simp)] at hB
      exact hB
    have h4 := h3.drew
    have h5 := h4.toAt T.sd
    refine wp_mono (Q := onlyN (fun a w => QC B n Q .normal a w)) (wp_region_held (S := stillW (B.at cx s.l T.sd w.drew)) hm ?_) (fun e a w hq => by cases e <;> first | exact hq | exact hq.elim)
    have := semF_sound hT hs (Q := fun a w => QC B n Q .normal a w) (K := fun s σ => Q .normal s σ)
      t true (Array.replicate l.length false) (B := B.at cx s.l T.sd w.drew) rfl (fun a w ⟨cx', s', σ', h6, h7⟩ => ⟨cx', s', σ', h6.ofAt h1, h7⟩) hB h5 (fun _ => ⟨fun g hg => .inl hg, fun d cells hd hl => .inr ⟨d, cells, hd, hl, rfl⟩⟩) (by simpa using h)
    rw [hlen] at this
    simpa using this
section
variable {ops : List Oper} {i k d j : Nat} {r : Tf} {o : Oper} {ds : List (Option Nat)} {b : Bool}
theorem F.g (ho : ops[i]? = some o) (hs : stC T s k o.op) (hd : okd n o.dst = true) (hg : o.guard = none)
    (h : ∀ K' : St → Hp → Prop, (∀ s σ, semF P T n ops ds r K s σ → K' s σ) → semOp P T o K' s σ) : semF P T n ops ds (.st i k r) K s σ := by
  have := D.g (P := P) (T := T) (n := n) (s := s) (σ := σ) (K := semF P T n ops ds r K) (ds := ds) (ops := ops) (i := i) (k := k) (l := []) ho hs hd hg h
  exact this
theorem F.y (ho : ops[i]? = some o) (hs : stC T s k o.op) (hd : okd n o.dst = true) (hg : o.guard = some (j, b)) (hj : ds[j]? = some (some d)) (hb : s.t d = .c (.bool b))
    (h : ∀ K' : St → Hp → Prop, (∀ s σ, semF P T n ops ds r K s σ → K' s σ) → semOp P T o K' s σ) : semF P T n ops ds (.st i k r) K s σ := by
  have := D.y (P := P) (T := T) (n := n) (s := s) (σ := σ) (K := semF P T n ops ds r K) (ds := ds) (ops := ops) (i := i) (k := k) (l := []) ho hs hd hg hj hb h
  exact this
theorem F.x (ho : ops[i]? = some o) (hk : k = 1 → isLoad o.op = true) (hd : okd n o.dst = true) (hg : o.guard = some (j, b)) (hj : ds[j]? = some (some d)) (hb : s.t d = .c (.bool (!b)))
    (h : ∀ K' : St → Hp → Prop, (∀ s σ, semF P T n ops ds r K s σ → K' s σ) → K' (s.putO o.dst (.c undef)) σ) : semF P T n ops ds (.st i k r) K s σ := by
  have := D.x (P := P) (T := T) (n := n) (s := s) (σ := σ) (K := semF P T n ops ds r K) (ds := ds) (ops := ops) (i := i) (k := k) (l := []) ho hk hd hg hj hb h
  exact this
theorem F.u (ho : ops[i]? = some o) (hk : k = 1 → isLoad o.op = true) (hd : okd n o.dst = true) (hg : o.guard = some (j, b)) (hj : ds[j]? = some (some d)) (hb : s.t d = .c undef)
    (h : ∀ K' : St → Hp → Prop, (∀ s σ, semF P T n ops ds r K s σ → K' s σ) → K' (s.putO o.dst (.c undef)) σ) : semF P T n ops ds (.st i k r) K s σ := by
  have := D.u (P := P) (T := T) (n := n) (s := s) (σ := σ) (K := semF P T n ops ds r K) (ds := ds) (ops := ops) (i := i) (k := k) (l := []) ho hk hd hg hj hb h
  exact this
theorem F.nil (h : K s σ) : semF P T n ops ds .nil K s σ := h
/-- Only so much of the state is wanted from here on. -/
theorem F.cut {t : Tf} (J : St → Hp → Prop) (h : J s σ) (k : ∀ s σ, J s σ → semF P T n ops ds t K s σ) : semF P T n ops ds t K s σ := k s σ h
theorem F.fork3 {a c e : Tf} {q : Nat} (h1 : semF P T n ops ds (.st i 2 a) K s σ) (h2 : semF P T n ops ds (.st j 2 c) K s σ) (h3 : semF P T n ops ds (.st q 2 e) K s σ) : semF P T n ops ds (.fork3 i a j c q e) K s σ := ⟨h1, h2, h3⟩
theorem F.fork {a c : Tf} (h1 : semF P T n ops ds (.st i 2 a) K s σ) (h2 : semF P T n ops ds (.st j 2 c) K s σ) : semF P T n ops ds (.fork i a j c) K s σ := ⟨h1, h2⟩
end
end
end Go.Abs
namespace Go.Abs
open Go
section
variable {P : Program} {σ : Hp}
/-- A call whose result is a list that grows: the result, frozen. -/
theorem ACalls.freeze {f : FuncId} {args : List V} {R R' : V → Hp → Prop} (h : ACalls P f args σ R)
    (hr : ∀ v σ', R v σ' → ∃ k T es, v = .gl k ∧ σ'.gr k = some (T, es) ∧ R' (.sl es) (σ'.setGr k none)) : ACalls P f args σ R' := by
  refine ⟨h.1, fun cx w xs hH ha => (h.2 cx w xs hH ha).mono fun e w' ⟨v, r, cx', σ', h1, h2, h3, h4⟩ => ?_⟩
  obtain ⟨k, T, es, rfl, hk, hR⟩ := hr v σ' h4
  obtain ⟨cx2, hle, hL, hI, hH2, hv⟩ := h3.heap.freeze hk
  have hsub : ∀ g, (σ'.setGr k none).own cx2 g → σ'.own cx' g := fun g hg => by
    rcases hg with ⟨c, hc⟩ | ⟨j, x, hj, hb⟩
    · exact .inl ⟨c, hc⟩
    · by_cases ej : j = k
      · simp [Hp.setGr, ej] at hj
      · simp only [Hp.setGr, ej, if_false] at hj
        have hjn := (h3.heap.gr j x.1 x.2 hj).1
        rw [hle.M j hjn] at hb
        exact .inr ⟨j, x, hj, hb⟩
  have hcx : r = cx'.M k := by cases h2; rfl
  refine ⟨.sl es, r, cx2, σ'.setGr k none, h1, hcx ▸ hv, ⟨hH2, ⟨h3.ext.os, h3.ext.tape, h3.ext.output, h3.ext.size, h3.ext.block, h3.ext.le.trans hle, fun g hg => ?_, fun g hg => h3.ext.fnew g (hsub g hg)⟩, fun j x hj => ?_, fun g x hg => h3.onew g x hg⟩, hR⟩
  · rcases hI g hg with hg | hg
    · exact h3.ext.inew g hg
    · rcases h3.ext.fnew g (.inr ⟨k, _, hk, hg⟩) with h | h
      · exact .inr (.inl h)
      · exact .inr (.inr h)
  · by_cases ej : j = k
    · simp [Hp.setGr, ej] at hj
    · simp only [Hp.setGr, ej, if_false] at hj
      exact h3.gnew j x hj
end
end Go.Abs
namespace Go.Abs
open Go
section
variable {P : Program}
end
section
variable {P : Program} {T : Tab} {B : Base} {n : Nat} {cx cx' : Cx} {s : St} {σ σ' : Hp} {a : Act} {w w' : World} {K : St → Hp → Prop}
/-- append of a make, to a list of the call's own. -/
def semAppendG (P : Program) (t : TypeId) (x y : V) (d : Option Nat) (K : St → Hp → Prop) (s : St) (σ : Hp) : Prop :=
  match dstE σ (P.elem t) (szT P (P.elem t)) x, y with
  | some (ok, es), .c (.int _ c) => ∃ z, zeroT P (P.elem t) = some z ∧ slT P t = true ∧ szT P (P.elem t) ≠ 0 ∧ z.cells.size = szT P (P.elem t) ∧ oneAll z.cells.toList = true ∧ 0 < c ∧ es.length + c.toNat ≤ maxLen ∧
      (es.length + c.toNat) * P.bytesOf (P.elem t) ≤ reach ∧
      ∀ k', (σ.delO ok).gr k' = none → K (s.putO d (.gl k')) ((σ.delO ok).setGr k' (some ((P.elem t, szT P (P.elem t)), es ++ List.replicate c.toNat (z.cells.toList.map .c))))
  | _, _ => False
/-- A region in order, where an append of a make may stand. -/
def semX (P : Program) (T : Tab) (o : Oper) (K : St → Hp → Prop) (s : St) (σ : Hp) : Prop :=
  semOp P T o K s σ ∨ ∃ t t' x y ki, P.underlying t' = some (.int ki) ∧ o.op = .call { callee := .builtin .append, args := #[x, y], argTypes := #[t, t'] } ∧ semAppendG P t (ev s x) (ev s y) o.dst K s σ
def semLX (P : Program) (T : Tab) (n : Nat) : List Oper → (St → Hp → Prop) → St → Hp → Prop
  | [], K, s, σ => K s σ
  | o :: r, K, s, σ => dOK n o.dst ∧ o.guard = none ∧ semX P T o (semLX P T n r K) s σ
theorem XS.g {o : Oper} {r : List Oper} (hd : okd n o.dst = true) (hg : o.guard = none) (h : semOp P T o (semLX P T n r K) s σ) : semLX P T n (o :: r) K s σ := ⟨okd_ok hd, hg, .inl h⟩
theorem XS.mk {o : Oper} {r : List Oper} {t t' : TypeId} {x y : Operand} {ki : IntKind} (hd : okd n o.dst = true) (hg : o.guard = none) (h1 : P.underlying t' = some (.int ki)) (h2 : o.op = .call { callee := .builtin .append, args := #[x, y], argTypes := #[t, t'] })
    (h : semAppendG P t (ev s x) (ev s y) o.dst (semLX P T n r K) s σ) : semLX P T n (o :: r) K s σ := ⟨okd_ok hd, hg, .inr ⟨t, t', x, y, ki, h1, h2, h⟩⟩
end
end Go.Abs
namespace Go.Abs
open Go
section
variable {P : Program} {B : Base} {n : Nat} {cx : Cx} {s : St} {σ : Hp} {a : Act} {w : World} {Q : Exit → St → Hp → Prop}
theorem SR.freezeX (h : SR B n cx s σ a w) {k : Nat} {T : TypeId × Nat} {es : List (List V)} (hk : σ.gr k = some (T, es)) : ∃ cx', SR B n cx' (s.fz k es) (σ.setGr k none) a w ∧ cx.le cx' ∧ VR w cx' (.sl es) (cx.M k) := by
  obtain ⟨cx', hle, hL, hI, hH, hv⟩ := h.heap.freeze hk
  have own' : ∀ g, (σ.setGr k none).own cx' g → σ.own cx g := fun g hg => by
    rcases hg with ⟨c, hc⟩ | ⟨j, x, hj, hb⟩
    · exact .inl ⟨c, hc⟩
    · by_cases e : j = k
      · simp [Hp.setGr, e] at hj
      · simp only [Hp.setGr, e, if_false] at hj
        exact .inr ⟨j, x, hj, by rw [← hle.M j (h.heap.gr j x.1 x.2 hj).1]; exact hb⟩
  have h1 : SR B n cx' s (σ.setGr k none) a w := h.heapstep hle hL (fun g hg => (hI g hg).imp id (fun e => .inl (.inr ⟨k, _, hk, e⟩))) (fun g hg => .inl (own' g hg)) rfl rfl rfl (Nat.le_refl _) (fun _ _ _ => rfl) hH
    (fun j x hj => by
      by_cases e : j = k
      · simp [Hp.setGr, e] at hj
      · simp only [Hp.setGr, e, if_false] at hj; exact .inl ⟨x, hj⟩) (fun g x hx => .inl ⟨x, hx⟩)
  have hfe : foot cx' (σ.setGr k none) (s.fz k es).l = foot cx' (σ.setGr k none) s.l := by
    funext g
    refine propext (or_congr Iff.rfl ⟨fun ⟨d, c, hd, e⟩ => ?_, fun ⟨d, c, hd, e⟩ => ⟨d, c.map (fz1 k es), by simp [hd], e⟩⟩)
    simp only [St.fz_l, Option.map_eq_some_iff] at hd
    obtain ⟨c, hc, rfl⟩ := hd
    exact ⟨d, c, hc, e⟩
  refine ⟨cx', ⟨h1.size, by rw [hfe]; exact h1.defers, h1.nd, fun t => ?_, h1.heap, ⟨fun d cells hd => ?_, fun d cells hd => ?_, fun d e c c' hd he => ?_⟩, ?_, h1.gnew, h1.onew, h1.stab, h1.stN, fun d c hd => ?_⟩, hle, hv⟩
  · have ht := h.tmp t
    show TR w cx' (fzV k es (s.t t)) _
    generalize s.t t = v at ht
    generalize a.tmps.getD t undef = x at ht
    cases ht with
    | v hv' => exact .v (fzV_VR hle hv hv')
    | lp d off => rw [← hL]; exact .lp d off
    | junk => exact .junk _
  · simp only [St.fz_l, Option.map_eq_some_iff] at hd
    obtain ⟨c, hc, rfl⟩ := hd
    obtain ⟨T', cs, h2, h3⟩ := h.box.box d c hc
    rw [hL]
    exact ⟨T', cs, h2, fzs_VRs hle hv h3⟩
  · simp only [St.fz_l, Option.map_eq_some_iff] at hd
    obtain ⟨c, hc, rfl⟩ := hd
    exact h1.box.apart d c hc
  · simp only [St.fz_l, Option.map_eq_some_iff] at hd he
    obtain ⟨c, hc, rfl⟩ := hd
    obtain ⟨c', hc', rfl⟩ := he
    exact h1.box.inj d e c c' hc hc'
  · have e : foot cx' (σ.setGr k none) (s.fz k es).l = foot cx' (σ.setGr k none) s.l := by
      funext g
      refine propext (or_congr Iff.rfl ⟨fun ⟨d, c, hd, e⟩ => ?_, fun ⟨d, c, hd, e⟩ => ⟨d, c.map (fz1 k es), by simp [hd], e⟩⟩)
      simp only [St.fz_l, Option.map_eq_some_iff] at hd
      obtain ⟨c, hc, rfl⟩ := hd
      exact ⟨d, c, hc, e⟩
    rw [e]; exact h1.ext
  · simp only [St.fz_l, Option.map_eq_some_iff] at hd
    obtain ⟨c, hc, rfl⟩ := hd
    exact h1.stS d c hc
/-- A growing list that an object holds, frozen there too. -/
theorem SR.freezeO (h : SR B n cx s σ a w) {k g : Nat} {T : TypeId × Nat} {es : List (List V)} {cells : List V} (hk : σ.gr k = some (T, es)) (hg : σ.obj g = some cells) (hm : isMap cells = false) :
    ∃ cx', SR B n cx' (s.fz k es) ((σ.setGr k none).setObj g (some (cells.map (fz1 k es)))) a w := by
  obtain ⟨cx', h1, hle, hv⟩ := h.freezeX hk
  obtain ⟨o, ho, hor⟩ := h.heap.obj g cells hg
  obtain ⟨T', cs, rfl, hvs⟩ := hor.row hm
  have hg' : (σ.setGr k none).obj g = some cells := hg
  have hH := h1.heap.setObj_same (w' := w) hg' ho (OR.cells (fzs_VRs hle hv hvs)) (Nat.le_refl _) (fun _ _ _ => rfl)
  refine ⟨cx', h1.heapstep (.refl _) rfl (fun _ hg => .inl hg) (fun g' hg' => ?_) rfl rfl rfl (Nat.le_refl _) (fun _ _ _ => rfl) hH (fun j x hj => .inl ⟨x, hj⟩) (fun g' x hx => ?_)⟩
  · rcases own_setObj hg' with h2 | h2
    · exact .inl h2
    · rw [h2]; exact .inl (.inl ⟨_, hg⟩)
  · by_cases e : g' = g
    · rw [e]; exact .inl ⟨_, hg⟩
    · simp only [Hp.setObj, e, if_false] at hx; exact .inl ⟨x, hx⟩
theorem AW.freezeO {c : Code} {k g : Nat} {T : TypeId × Nat} {es : List (List V)} {cells : List V} (hk : σ.gr k = some (T, es)) (hg : σ.obj g = some cells) (hm : isMap cells = false)
    (h : AW P n c Q (s.fz k es) ((σ.setGr k none).setObj g (some (cells.map (fz1 k es))))) : AW P n c Q s σ :=
  fun B cx a w h1 h2 h3 => by
    obtain ⟨cx', h4⟩ := h3.freezeO hk hg hm
    exact h B cx' a w h1 h2 h4
/-- A nil slice that an object holds is an empty one. -/
theorem AW.nilO {c : Code} {g : Nat} {cells : List V} (hg : σ.obj g = some cells) (hm : isMap cells = false) (h : AW P n c Q s (σ.setObj g (some (cells.map wk1)))) : AW P n c Q s σ :=
  fun B cx a w h1 h2 h3 => by
    obtain ⟨o, ho, hor⟩ := h3.heap.obj g cells hg
    obtain ⟨T', cs, rfl, hvs⟩ := hor.row hm
    have hv2 : VRs w cx (cells.map wk1) cs := ⟨by simpa using hvs.1, hvs.2.1, fun i v x hi hx => by
      simp only [List.getElem?_map, Option.map_eq_some_iff] at hi
      obtain ⟨u, hu, rfl⟩ := hi
      exact wk1_VR (hvs.2.2 i u x hu hx)⟩
    have hH := h3.heap.setObj_same (w' := w) hg ho (OR.cells hv2) (Nat.le_refl _) (fun _ _ _ => rfl)
    refine h B cx a w h1 h2 (h3.heapstep (.refl _) rfl (fun _ hg => .inl hg) (fun g' hg' => ?_) rfl rfl rfl (Nat.le_refl _) (fun _ _ _ => rfl) hH (fun j x hj => .inl ⟨x, hj⟩) (fun g' x hx => ?_))
    · rcases own_setObj hg' with h2 | h2
      · exact .inl h2
      · rw [h2]; exact .inl (.inl ⟨_, hg⟩)
    · by_cases e : g' = g
      · rw [e]; exact .inl ⟨_, hg⟩
      · simp only [Hp.setObj, e, if_false] at hx; exact .inl ⟨x, hx⟩
end
end Go.Abs
namespace Go.Abs
open Go
section
variable {P : Program} {T : Tab} {n : Nat} {r : Option Nat} {s : St} {σ : Hp} {K : St → Hp → Prop} {Q Q' : Exit → St → Hp → Prop}
/-- The fence of a frame: a round's, or a plain one's. -/
abbrev RF (ro : Option Nat) : Fence := { Fence.wide with round := ro }
theorem CallsIn.toRF {ro : Option Nat} {m : Nat} {f : FuncId} {args : Array Value} {w : World} {R : Ending → World → Prop} (h : CallsIn Fence.wide m P f args w R) : CallsIn (RF ro) m P f args w R := h
theorem upon_in' {o : Oper} {a : Act} {K K' : Act → World → Prop} {Q Q' : Exit → Act → World → Prop} (hP : ∀ c a w, Q (.panic c) a w → Q' (.panic c) a w) (hO : LetsOut Q → LetsOut Q') (hK : ∀ a w, K a w → K' a w) : ∀ {x : Result Next}, o.upon P a K Q x → o.uponIn (RF r) 0 P a K' Q' x
  | .ok (.value v) w, h => hK _ _ h
  | .ok .skip w, h => hK _ _ h
  | .ok (.defer d) w, h => hK _ _ h
  | .ok (.enter f args) w, h => by
    refine ⟨fun e => (by cases e), CallsIn.toRF ((callsIn_wide (n := 0)).2 ?_)⟩
    refine Calls.mono h fun e w'' he => ?_
    cases e with
    | returned v => exact hK _ _ he
    | panicked c => exact hP _ _ _ he
    | outgrown => exact hO he
  | .ok (.row row args) w, h => by
    refine ⟨fun e => (by cases e), fun c cs _ => ?_⟩
    obtain ⟨v, w', h1, h2⟩ := h c cs
    exact ⟨v, w', hK _ _ h1, stepsIn_wide.2 h2⟩
  | .ok (.round ..) w, h => h.elim
  | .halt (.panic v) w, h => hP _ _ _ h
  | .halt (.exit ..) w, h => h.elim
  | .halt (.fatal ..) w, h => h.elim
  | .halt (.stuck ..) w, h => h.elim
  | .halt (.unsupported ..) w, h => h.elim
theorem upon_in {o : Oper} {a : Act} {K K' : Act → World → Prop} {Q : Exit → Act → World → Prop} (hK : ∀ a w, K a w → K' a w) {x : Result Next} (h : o.upon P a K Q x) : o.uponIn (RF r) 0 P a K' Q x :=
  upon_in' (fun _ _ _ h => h) id hK h
theorem onlyN_no {Q : Act → World → Prop} : ¬ LetsOut (onlyN Q) := fun ⟨_, _, h⟩ => h
def noDefer (ops : List Oper) : Bool := ops.all fun o => match o.op with | .defer _ => false | _ => true
theorem noDefer_spec {ops : List Oper} (h : noDefer ops = true) {i : Nat} {o : Oper} (hi : ops.toArray[i]? = some o) : ∀ c, o.op ≠ .defer c := fun c e => by
  have := List.all_eq_true.1 h o (List.mem_of_getElem? (by simpa using hi))
  rw [e] at this; cases this
theorem ops_in {ops : List Oper} {Q : Exit → Act → World → Prop} (hQ : ¬ LetsOut Q) (hd : noDefer ops = true) : ∀ (l : List Nat) (a : Act) (w : World), wpOps P ops.toArray Q l a w → wpOpsIn (RF r) 0 P ops.toArray Q l a w
  | [], a, w, h => h
  | i :: l, a, w, h => by
    simp only [wpOps, wpOpsIn] at h ⊢
    cases ho : ops.toArray[i]? with
    | none => simp only [ho] at h ⊢; exact ops_in hQ hd l a w h
    | some o =>
      simp only [ho] at h ⊢
      split
      · rename_i hw
        rw [if_pos hw] at h
        refine ⟨fun _ _ => trivial, ?_⟩
        rw [Oper.semAt_eq _ _ _ (noDefer_spec hd ho)]
        rcases h with h | h
        · exact upon_in (fun a w h => ops_in hQ hd l a w h) h
        · exact (hQ h.2).elim
      · rename_i hw
        rw [if_neg hw] at h
        exact ⟨fun _ _ => trivial, ops_in hQ hd l _ w h⟩
/-- A part of a region, walked by the logic; then the rest. -/
theorem ops_at {l : List Oper} {Q1 : Act → World → Prop} {Q : Exit → Act → World → Prop} (hd : noDefer l = true) {q : Nat} : ∀ (m k : Nat) (a : Act) (w : World),
    wpList P l.toArray (onlyN Q1) ((l.drop k).take m) a w → (∀ a w, Q1 a w → wpOpsIn (RF r) 0 P l.toArray Q (List.range' (k + m) q) a w) → k + m ≤ l.length → wpOpsIn (RF r) 0 P l.toArray Q (List.range' k (m + q)) a w
  | 0, k, a, w, h, hq, _ => by
    have := hq a w (by simpa [wpList, onlyN] using h)
    simpa using this
  | m + 1, k, a, w, h, hq, hl => by
    have hlt : k < l.length := by omega
    have e1 : (l.drop k).take (m + 1) = l[k] :: (l.drop (k + 1)).take m := by rw [List.drop_eq_getElem_cons hlt, List.take_succ_cons]
    have e2 : List.range' k (m + 1 + q) = k :: List.range' (k + 1) (m + q) := by rw [show m + 1 + q = (m + q) + 1 by omega, List.range'_succ]
    have ho : l.toArray[k]? = some l[k] := by simp [hlt]
    rw [e1] at h
    rw [e2]
    have next : ∀ a w, wpList P l.toArray (onlyN Q1) ((l.drop (k + 1)).take m) a w → wpOpsIn (RF r) 0 P l.toArray Q (List.range' (k + 1) (m + q)) a w := fun a w h' =>
      ops_at hd m (k + 1) a w h' (by rw [show k + 1 + m = k + (m + 1) by omega]; exact hq) (by omega)
    simp only [wpList] at h
    simp only [wpOpsIn, ho]
    split
    · rename_i hw
      rw [if_pos hw] at h
      refine ⟨fun _ _ => trivial, ?_⟩
      rw [Oper.semAt_eq _ _ _ (noDefer_spec hd ho)]
      rcases h with h | h
      · exact upon_in' (fun c a w h => h.elim) (fun ⟨_, _, h⟩ => h.elim) next h
      · exact (onlyN_no h.2).elim
    · rename_i hw
      rw [if_neg hw] at h
      exact ⟨fun _ _ => trivial, next _ w h⟩
theorem SR.ofAtS {B : Base} {cx : Cx} {a : Act} {w : World} (hB : ∀ g, ¬ B.still g) {cx0 : Cx} {l0 : Nat → Option (List V)} {sd : Nat → Bool} {w1 : World} (h : SR (B.at cx0 l0 sd w1) n cx s σ a w) : SR B n cx s σ a w :=
  ⟨h.size, h.defers, h.nd, h.tmp, h.heap, h.box, h.ext, h.gnew, h.onew, fun g hg => (hB g hg).elim, fun g hg => (hB g hg).elim, fun _ _ _ hg => (hB _ hg).elim⟩
/-- Code in a round, from a state. -/
def AWR (P : Program) (n : Nat) (r : Option Nat) (c : Code) (Q : Exit → St → Hp → Prop) (s : St) (σ : Hp) : Prop :=
  ∀ (B : Base) (cx : Cx) (a : Act) (w : World), (∀ g, ¬ B.still g) → B.sd = (fun _ => false) → SR B n cx s σ a w → c.wpIn (RF r) 0 P (QC B n Q) a w
theorem AWR.mono {c : Code} (h : AWR P n r c Q s σ) (hq : ∀ e s σ, Q e s σ → Q' e s σ) : AWR P n r c Q' s σ :=
  fun B cx a w h1 h2 h3 => wpIn_mono (h B cx a w h1 h2 h3) fun e _ _ ⟨cx', s', σ', h4, h5⟩ => ⟨cx', s', σ', h4, hq e s' σ' h5⟩
theorem AWR.skip (h : Q .normal s σ) : AWR P n r .skip Q s σ := fun _ cx _ _ _ _ h3 => wpIn_skip ⟨cx, s, σ, h3, h⟩
theorem AWR.exit {id : Nat} (h : Q (.exit id) s σ) : AWR P n r (.exit id) Q s σ := fun _ cx _ _ _ _ h3 => wpIn_exit ⟨cx, s, σ, h3, h⟩
theorem AWR.ret (h : Q .ret s σ) : AWR P n r .ret Q s σ := fun _ cx _ _ _ _ h3 => wpIn_ret ⟨cx, s, σ, h3, h⟩
theorem AWR.seq {x y : Code} (h : AWR P n r x (thenS (AWR P n r y Q) Q) s σ) : AWR P n r (.seq x y) Q s σ :=
  fun B cx a w h1 h2 h3 => wpIn_seq (wpIn_mono (h B cx a w h1 h2 h3) fun e a' w' ⟨cx', s', σ', h4, h5⟩ => by
    cases e with
    | normal => exact h5 B cx' a' w' h1 h2 h4
    | _ => exact ⟨cx', s', σ', h4, h5⟩)
theorem AWR.seq_k {x y : Code} (h : ∀ K : St → Hp → Prop, (∀ s σ, AWR P n r y Q s σ → K s σ) → AWR P n r x (thenS K Q) s σ) : AWR P n r (.seq x y) Q s σ :=
  .seq (h _ fun _ _ h => h)
theorem AWR.cond {c : Operand} {x y : Code} {b : Bool} (hc : ev s c = .c (.bool b)) (ht : b = true → AWR P n r x Q s σ) (hf : b = false → AWR P n r y Q s σ) : AWR P n r (.cond c x y) Q s σ :=
  fun B cx a w h1 h2 h3 => by
    have hv := h3.tr c
    rw [hc] at hv
    exact wpIn_cond_split hv.c_eq (fun e => ht e B cx a w h1 h2 h3) (fun e => hf e B cx a w h1 h2 h3)
theorem AWR.block {id : Nat} {c : Code} (h : AWR P n r c (inBlockS id Q) s σ) : AWR P n r (.block id c) Q s σ :=
  fun B cx a w h1 h2 h3 => wpIn_block (wpIn_mono (h B cx a w h1 h2 h3) fun e a' w' ⟨cx', s', σ', h4, h5⟩ => by
    cases e with
    | exit id' =>
      simp only [Exit.inBlock, inBlockS] at h5 ⊢
      split
      · rename_i e; rw [if_pos e] at h5; exact ⟨cx', s', σ', h4, h5⟩
      · rename_i e; rw [if_neg e] at h5; exact ⟨cx', s', σ', h4, h5⟩
    | _ => exact ⟨cx', s', σ', h4, h5⟩)
theorem wpIn_onlyN {c : Code} {B : Base} {a : Act} {w : World} (h : c.wpIn (RF r) 0 P (onlyN fun a w => QC B n Q .normal a w) a w) : c.wpIn (RF r) 0 P (QC B n Q) a w :=
  wpIn_mono h fun e a w hq => by cases e <;> first | exact hq | exact hq.elim
theorem AWR.region (hT : T.ok P) (hsd : T.sd = fun _ => false) {id : Nat} {l : List Oper} (hd : noDefer l = true) (h : semL P T n (l.map (·.dst)) l (fun s σ => Q .normal s σ) s σ) : AWR P n r (.region id l.toArray false) Q s σ :=
  fun B cx a w _ h2 h3 => wpIn_onlyN (wpIn_region (ops_in onlyN_no hd _ _ _ (by
    have := semL_sound (Q := onlyN fun a w => QC B n Q .normal a w) hT (h2.trans hsd.symm) (ops := l.toArray) l h3 (fun a w ⟨cx, s, σ, h4, h5⟩ => ⟨cx, s, σ, h4, h5⟩) (by simpa using h)
    rw [List.range_eq_range', ← Array.length_toList, wpOps_eq_wpList l.toArray.toList 0 (by simp)]
    simpa using this)))
theorem AWR.reg0 {id : Nat} {l : List Oper} (h : noDefer l = true ∧ semL P {} n (l.map (·.dst)) l (fun s σ => Q .normal s σ) s σ) : AWR P n r (.region id l.toArray false) Q s σ :=
  .region (T := {}) (fun _ _ h => by cases h) rfl h.1 h.2
theorem region_heldR {id : Nat} {l : List Oper} {S : World → Prop} {Q : Exit → Act → World → Prop} {a : Act} {w : World} (hm : P.follows .mixedOrders = true) (hQ : ¬ LetsOut Q) (hd : noDefer l = true)
    (h : wpAnyH P .any l.toArray Q S l.toArray.size (Array.replicate l.toArray.size false) a { w with drawn := w.drawn + 1 }) : (Code.region id l.toArray true).wpIn (RF r) 0 P Q a w :=
  wpIn_region_draw fun t => ops_in hQ hd _ _ _ (by
    simp only [Region.schedule, hm, Bool.true_or, if_true]
    exact wpAny_sound _ t _ a _ (wpAny_of_held _ _ _ _ h))
/-- A region that draws its order, in a round. -/
theorem AWR.drawF (hT : T.ok P) (hm : P.follows .mixedOrders = true) {id : Nat} {l : List Oper} (t : Tf) (hlen : t.len = l.length) (hs : Region.noSelect l.toArray = true)
    (hB : (noDefer l && schedH P l t true (List.replicate l.length false)) = true) (h : semF P T n l (l.map (·.dst)) t (fun s σ => Q .normal s σ) s σ) : AWR P n r (.region id l.toArray true) Q s σ :=
  fun B cx a w h1 _ h3 => by
    rw [Bool.and_eq_true] at hB
    obtain ⟨hd, hB⟩ := hB
    have hB : schedG P l.toArray t true (Array.replicate l.length false) = true := by
      rw [schedH_eq _ _ _ _ _ (by simp)] at hB
      exact hB
    have h4 := h3.drew
    have h5 := h4.toAt T.sd
    refine wpIn_onlyN (region_heldR (S := stillW (B.at cx s.l T.sd w.drew)) hm onlyN_no hd ?_)
    have := semF_sound hT hs (Q := fun a w => QC B n Q .normal a w) (K := fun s σ => Q .normal s σ)
      t true (Array.replicate l.length false) (B := B.at cx s.l T.sd w.drew) rfl (fun a w ⟨cx', s', σ', h6, h7⟩ => ⟨cx', s', σ', h6.ofAtS h1, h7⟩) hB h5 (fun _ => ⟨fun g hg => .inl hg, fun d cells hd hl => .inr ⟨d, cells, hd, hl, rfl⟩⟩) (by simpa using h)
    rw [hlen] at this
    simpa using this
end
end Go.Abs
namespace Go.Abs
open Go
section
variable {P : Program} {n : Nat} {s : St} {σ : Hp}
/-- What is known of blocks that nobody writes, and nothing else. -/
def Cx.im (I : Nat → Prop) : Cx := ⟨I, fun _ => undef, fun _ => 0, 0, fun _ => 0⟩
theorem VR.ofIm {w : World} {I : Nat → Prop} {cx : Cx} {v : V} {x : Value} (h : VR w (Cx.im I) v x) (hI : ∀ g, I g → cx.I g) : VR w cx v x :=
  h.keep (fun _ _ => rfl) ⟨hI, Nat.zero_le _, fun k hk => absurd hk (Nat.not_lt_zero k), fun k hk => absurd hk (Nat.not_lt_zero k)⟩
/-- Values that hold nothing of a heap of one's own. -/
inductive Imm : V → Prop
  | c (x : Value) : Imm (.c x)
  | sl {es : List (List V)} (h : ∀ e : List V, e ∈ es → ∀ v : V, v ∈ e → Imm v) : Imm (.sl es)
  | ip {es : List (List V)} {i off : Nat} (h : ∀ e : List V, e ∈ es → ∀ v : V, v ∈ e → Imm v) : Imm (.ip es i off)
  | agg {vs : List V} (h : ∀ v : V, v ∈ vs → Imm v) : Imm (.agg vs)
theorem VR.toIm {w : World} {cx : Cx} {v : V} {x : Value} (h : VR w cx v x) (hv : Imm v) : VR w (Cx.im cx.I) v x := by
  induction h with
  | c x => exact .c x
  | nils => exact .nils
  | nile a => exact .nile a
  | sl f hb hcap hlen hc hr h1 ih =>
    cases hv with
    | sl h => exact .sl f hb hcap hlen hc (fun i e j v hi hj => ih i e j v hi hj (h e (List.mem_of_getElem? hi) v (List.mem_of_getElem? hj))) h1
  | ip f hb hi hlen hc hr h1 ih =>
    cases hv with
    | ip h => exact .ip f hb hi hlen hc (fun i e j v hi hj => ih i e j v hi hj (h e (List.mem_of_getElem? hi) v (List.mem_of_getElem? hj))) h1
  | gl hk hs => cases hv
  | gp hk hg => cases hv
  | agg h1 hn _ ih => cases hv with | agg h => exact .agg h1 hn (fun i v x hv hx => ih i v x hv hx (h v (List.mem_of_getElem? hv)))
  | tup hn _ ih => cases hv
  | fn hn _ hm _ ih1 ih2 => cases hv
/-- New blocks, and nothing else. -/
structure Newer (W W' : World) : Prop where
  os : W'.os = W.os
  tape : W'.tape = W.tape
  output : W'.output = W.output
  size : W.heap.size ≤ W'.heap.size
  block : ∀ g, g < W.heap.size → W'.heap[g]? = W.heap[g]?
theorem Newer.refl (W : World) : Newer W W := ⟨rfl, rfl, rfl, Nat.le_refl _, fun _ _ => rfl⟩
/-- More blocks that nobody writes. -/
def MoreI (I I' : Nat → Prop) (W W' : World) : Prop := (∀ g, I g → I' g) ∧ ∀ g, I' g → I g ∨ (W.heap.size ≤ g ∧ g < W'.heap.size)
/-- An iterator: it hands the elements 'xs', one by one, to whatever round: 'J i I W': between two rounds, i have come; 'Jx': a round has said no more. -/
def Iter (P : Program) (f : FuncId) (caps : List V) (xs : List V) : Prop :=
  (∀ (zs : Array Value) (w : World), (callFunc f zs).run P w = .ok (.enter f zs) w) ∧
  ∀ (l : Nat) (W0 : World) (I0 : Nat → Prop) (cv : List Value) (J : Nat → (Nat → Prop) → World → Prop) (Jx : World → Prop),
    VAs W0 (Cx.im I0) caps cv →
    (∀ i I W, J i I W → ∀ g, I g → g < W.heap.size) →
    (∀ i I W I' W', J i I W → Newer W W' → MoreI I I' W W' → J i I' W') →
    (∀ I W I' W', Jx W → Newer W W' → MoreI I I' W W' → Jx W') →
    (∀ i I W v x, J i I W → xs[i]? = some v → VR W (Cx.im I) v x → YieldAt Fence.wide 0 P l #[x] W fun e W' =>
      (e = .returned (.bool true) ∧ ∃ I', J (i + 1) I' W' ∧ (∀ g, I g → I' g ∧ W'.heap[g]? = W.heap[g]?)) ∨ (e = .returned (.bool false) ∧ Jx W')) →
    J 0 I0 W0 →
    CallsIn Fence.wide 0 P f (#[.func (.yield l) #[] #[]] ++ ⟨cv⟩) W0 fun e W' => (∃ v, e = .returned v) ∧ ((∃ I, J xs.length I W') ∨ Jx W')
def keepV : V → V
  | .c x => .c x
  | .sl es => .sl es
  | .ip es i o => .ip es i o
  | .fn f a b => .fn f a b
  | _ => .junk
/-- A frame that owns nothing. -/
def Base.it (cx : Cx) (w : World) : Base := { cx := cx, F := fun _ => False, w := w, g := fun _ => False, o := fun _ => False, nd := true }
theorem Base.it_Ext {cx : Cx} {w : World} : Ext cx (fun _ => False) w cx (foot cx Hp.empty fun _ => none) w :=
  ⟨rfl, rfl, rfl, Nat.le_refl _, fun _ _ _ => rfl, .refl _, fun _ h => .inl h, fun g hg => by
    rcases hg with hg | ⟨d, c, hd, _⟩
    · exact (own_empty hg).elim
    · cases hd⟩
theorem keepV_TR {w w' : World} {cx cx' : Cx} {v : V} {x : Value} (h : TR w cx v x) (hw : ∀ g, cx.I g → w'.heap[g]? = w.heap[g]?) (hle : cx.le cx') : TR w' cx' (keepV v) x := by
  cases h with
  | v h =>
    have h' := h.keep hw hle
    cases v <;> first | exact .v h' | exact .junk _
  | lp d off => exact .junk _
  | junk => exact .junk _
theorem SR.again {B : Base} {cx : Cx} {a : Act} {w W' : World} {I' : Nat → Prop} (h : SR B n cx s σ a w) (hnd : B.nd = true) (hI : ∀ g, cx.I g → I' g ∧ W'.heap[g]? = w.heap[g]?) (hlt : ∀ g, I' g → g < W'.heap.size) :
    SR (Base.it { cx with I := I' } W') n { cx with I := I' } ⟨fun t => keepV (s.t t), fun _ => none⟩ Hp.empty a W' := by
  have hle : cx.le { cx with I := I' } := ⟨fun g hg => (hI g hg).1, Nat.le_refl _, fun _ _ => rfl, fun _ _ => rfl⟩
  have hd := h.nd hnd
  refine ⟨h.size, by rw [hd]; exact Marks.nil, fun _ => hd, fun t => keepV_TR (h.tmp t) (fun g hg => (hI g hg).2) hle, ⟨fun g c hc => (by cases hc), fun k T es hk => (by cases hk), fun k k' x x' g hk => (by cases hk), fun k x g c hk => (by cases hk), fun g hg => (own_empty hg).elim, fun g hg => hlt g hg⟩,
    ⟨fun d c hd => (by cases hd), fun d c hd => (by cases hd), fun d e c c' hd => (by cases hd)⟩, Base.it_Ext, fun k x hk => (by cases hk), fun g x hk => (by cases hk), fun g hs => hs.elim, fun g hs => hs.elim, fun d c hd => (by cases hd)⟩
/-- What such a frame has done: new blocks alone. -/
theorem SR.newer {B : Base} {cx0 cx : Cx} {a : Act} {w W : World} (hB : B = Base.it cx0 W) (h : SR B n cx s σ a w) : Newer W w ∧ MoreI cx0.I cx.I W w := by
  subst hB
  have he := h.ext
  refine ⟨⟨he.os, he.tape, he.output, he.size, fun g hg => he.block g hg (fun h => h)⟩, fun g hg => he.le.I g hg, fun g hg => ?_⟩
  rcases he.inew g hg with h1 | h1 | h1
  · exact .inl h1
  · exact h1.elim
  · exact .inr ⟨h1, h.heap.ilt g hg⟩
/-- The frame, as it begins. -/
theorem SR.itBegin {W : World} {I : Nat → Prop} {args : List V} {xs : List Value} {k : Nat} (ha : VAs W (Cx.im I) args xs) (_l : args.length ≤ n) (hk : xs.length + k = n) (hlt : ∀ g, I g → g < W.heap.size) :
    SR (Base.it (Cx.im I) W) n (Cx.im I) (enterS args) Hp.empty { tmps := (⟨xs⟩ : Array Value) ++ Array.replicate k undef, defers := [] } W := by
  refine ⟨by simp; omega, Marks.nil, fun _ => rfl, fun t => ?_, ⟨fun g c hc => (by cases hc), fun k T es hk => (by cases hk), fun k k' x x' g hk => (by cases hk), fun k x g c hk => (by cases hk), fun g hg => (own_empty hg).elim, fun g hg => hlt g hg⟩,
    ⟨fun d c hd => (by cases hd), fun d c hd => (by cases hd), fun d e c c' hd => (by cases hd)⟩, Base.it_Ext, fun k x hk => (by cases hk), fun g x hk => (by cases hk), fun g hs => hs.elim, fun g hs => hs.elim, fun d c hd => (by cases hd)⟩
  show TR W _ (args.getD t .junk) _
  by_cases ht : t < args.length
  · have h1 : args[t]? = some args[t] := List.getElem?_eq_getElem ht
    have htx : t < xs.length := by rw [← ha.1]; exact ht
    have h2 : xs[t]? = some xs[t] := List.getElem?_eq_getElem htx
    have h3 := ha.2 t _ _ h1 h2
    have e1 : args.getD t .junk = args[t] := by simp [List.getD, h1]
    have e2 : ((⟨xs⟩ : Array Value) ++ Array.replicate k undef).getD t undef = xs[t] := by
      simp [Array.getD_eq_getD_getElem?, Array.getElem?_append, htx]
    rw [e1]
    show TR W _ _ (((⟨xs⟩ : Array Value) ++ Array.replicate k undef).getD t undef)
    rw [e2]
    exact .v h3
  · have e1 : args.getD t .junk = .junk := by simp [List.getD, List.getElem?_eq_none (Nat.le_of_not_lt ht)]
    rw [e1]; exact .junk _
/-- A plain region of such a frame. -/
theorem it_region {B : Base} {cx : Cx} {a : Act} {w : World} {K : St → Hp → Prop} {id : Nat} {l : List Oper} (h : SR B n cx s σ a w) (hsd : B.sd = fun _ => false) (hs : semL P {} n (l.map (·.dst)) l K s σ) :
    (Code.region id l.toArray false).wpIn Fence.wide 0 P (onlyN (KC B n K)) a w :=
  wpIn_wide.2 (wp_region_lit (semL_sound (Q := onlyN (KC B n K)) (T := {}) (fun _ _ h => by cases h) hsd (ops := l.toArray) l h (fun a w h => h) (by simpa using hs)))
/-- A part of a region. -/
theorem it_part {B : Base} {cx : Cx} {a : Act} {w : World} {K : St → Hp → Prop} {l : List Oper} (m k q : Nat) {Q : Exit → Act → World → Prop} (hd : noDefer l = true) (hl : k + m ≤ l.length) (h : SR B n cx s σ a w) (hsd : B.sd = fun _ => false)
    (hs : semL P {} n (l.map (·.dst)) ((l.drop k).take m) K s σ) (hq : ∀ a w, KC B n K a w → wpOpsIn Fence.wide 0 P l.toArray Q (List.range' (k + m) q) a w) : wpOpsIn Fence.wide 0 P l.toArray Q (List.range' k (m + q)) a w :=
  ops_at (r := none) hd m k a w (semL_sound (Q := onlyN (KC B n K)) (T := {}) (fun _ _ h => by cases h) hsd (ops := l.toArray) _ h (fun a w h => h) (by simpa using hs)) hq hl
/-- A call of yield. -/
theorem it_yield {ops : Array Oper} {i q l : Nat} {o : Oper} {f x : Operand} {a : Act} {w : World} {v : Value} {Q : Exit → Act → World → Prop} {R : Ending → World → Prop} (ho : ops[i]? = some o) (hg : o.guard = none) {tys : Array TypeId}
    (hop : o.op = .call { callee := .value f, args := #[x], argTypes := tys }) (hf : a.eval f = .func (.yield l) #[] #[]) (hx : a.eval x = v) (hy : YieldAt Fence.wide 0 P l #[v] w R)
    (hR : ∀ e w', R e w' → ∃ b : Bool, e = .returned (.bool b) ∧ wpOpsIn Fence.wide 0 P ops Q (List.range' (i + 1) q) (a.put o.dst (.bool b)) w') : wpOpsIn Fence.wide 0 P ops Q (List.range' i (q + 1)) a w := by
  obtain ⟨fn, tmps, assign, body, h1, h2⟩ := hy
  rw [List.range'_succ]
  simp only [wpOpsIn, ho]
  rw [if_pos (by simp [Region.wanted, hg])]
  refine ⟨fun _ _ => trivial, ?_⟩
  rw [Oper.semAt_eq _ _ _ (by rw [hop]; intro c e; cases e)]
  have key : ∀ ρ : Operand → Value, ρ f = .func (.yield l) #[] #[] → ρ x = v → (execOp ρ o).run P w = .ok (.round l fn tmps assign body) w := fun ρ hf hx => by
    unfold execOp
    rw [hop]
    simp only [resolve, hf]
    simp [go_sem, invoke, hx, h1]
  have hrun := key _ hf hx
  rw [hrun]
  refine ⟨fun e => (by cases e), h2.mono fun e w' he => ?_⟩
  obtain ⟨b, rfl, h3⟩ := hR e w' he
  exact h3
/-- Behind a round that has said no more: nothing is known but plain numbers. -/
def keepC : V → V
  | .c x => .c x
  | _ => .junk
theorem SR.stop {B : Base} {cx : Cx} {a : Act} {w : World} (W' : World) (h : SR B n cx s σ a w) (hnd : B.nd = true) :
    SR (Base.it { cx with I := fun _ => False } W') n { cx with I := fun _ => False } ⟨fun t => keepC (s.t t), fun _ => none⟩ Hp.empty a W' := by
  have hd := h.nd hnd
  refine ⟨h.size, by rw [hd]; exact Marks.nil, fun _ => hd, fun t => ?_, ⟨fun g c hc => (by cases hc), fun k T es hk => (by cases hk), fun k k' x x' g hk => (by cases hk), fun k x g c hk => (by cases hk), fun g hg => (own_empty hg).elim, fun g hg => hg.elim⟩,
    ⟨fun d c hd => (by cases hd), fun d c hd => (by cases hd), fun d e c c' hd => (by cases hd)⟩, Base.it_Ext, fun k x hk => (by cases hk), fun g x hk => (by cases hk), fun g hs => hs.elim, fun g hs => hs.elim, fun d c hd => (by cases hd)⟩
  have ht := h.tmp t
  show TR W' _ (keepC (s.t t)) _
  generalize s.t t = v at ht
  generalize a.tmps.getD t undef = x at ht
  cases v with
  | c u => rw [ht.c_eq]; exact .v (.c u)
  | _ => exact .junk _
/-- The end of a function without results. -/
theorem SR.nothing {B : Base} {cx : Cx} {a : Act} {w : World} {fn : Func} (h : SR B n cx s σ a w) (hr : fn.results = #[]) : ∃ v, (results fn a.tmps).run P w = .ok v w := by
  obtain ⟨vs, ys, _, _, h5⟩ := resVs_run (P := P) (rs := []) (k := fun _ => True) h trivial
  exact ⟨_, results_run (rs := []) hr _ _ h5⟩
end
end Go.Abs
namespace Go.Abs
open Go Go.RowKit
section
variable {P : Program} {n : Nat} {s s' : St} {σ σ' : Hp} {B : Base} {cx cx' : Cx} {a a' : Act} {w w' : World}
/-- A round's base. -/
def Base.rnd (cx : Cx) (σ : Hp) (l : Nat → Option (List V)) (w : World) : Base :=
  { cx := cx, F := foot cx σ l, w := w, g := fun k => ∃ y, σ.gr k = some y, o := fun g => ∃ y, σ.obj g = some y, nd := true }
theorem SR.rebase (h : SR B n cx s σ a w) (hd : a.defers = []) : SR (Base.rnd cx σ s.l w) n cx s σ a w :=
  ⟨h.size, by rw [hd]; exact Marks.nil, fun _ => hd, h.tmp, h.heap, h.box, .refl _ _ _, fun k x hk => .inl ⟨x, hk⟩, fun g x hg => .inl ⟨x, hg⟩, fun g hs => hs.elim, fun g hs => hs.elim, fun d c _ hs => hs.elim⟩
/-- The round's frame, seen from the function's base. -/
theorem SR.compose (hB : B.plain) (hO : SR B n cx s σ a w) (hI : SR (Base.rnd cx σ s.l w) n cx' s' σ' a' w') : SR B n cx' s' σ' a' w' :=
  ⟨hI.size, by rw [hI.nd rfl]; exact Marks.nil, fun e => (by rw [hB.2] at e; cases e), hI.tmp, hI.heap, hI.box, hO.ext.trans hI.ext,
    fun k x hk => (hI.gnew k x hk).elim (fun ⟨y, hy⟩ => hO.gnew k y hy) (fun h1 => .inr (Nat.le_trans hO.ext.le.nm h1)),
    fun g x hk => (hI.onew g x hk).elim (fun ⟨y, hy⟩ => hO.onew g y hy) (fun h1 => .inr (Nat.le_trans hO.ext.size h1)),
    fun g hs => (hB.1 g hs).elim, fun g hs => (hB.1 g hs).elim, fun _ _ _ hs => (hB.1 _ hs).elim⟩
def plainS (s : St) : St := ⟨fun t => keepV (s.t t), fun _ => none⟩
theorem foot_none {g : Nat} {l : Nat → Option (List V)} (h : foot cx σ (fun _ => none) g) : foot cx σ l g := by
  rcases h with h | ⟨d, c, hd, _⟩
  · exact .inl h
  · cases hd
/-- The function's own frame, behind a round. -/
theorem SR.outer {s0 : St} (hB : B.plain) (hO : SR B n cx s0 σ a w) (hI : SR (Base.rnd cx σ s0.l w) n cx' s' σ' a' w') : SR B n cx' (plainS s0) σ' a w' := by
  have himm : ∀ g, cx.I g → w'.heap[g]? = w.heap[g]? := fun g hg => hI.ext.block g (hO.heap.ilt g hg) (hO.foot_apart hg)
  refine ⟨hO.size, (hO.defers.keep hI.ext).mono (fun g hg => foot_none hg) (fun g hg => .inl hg), hO.nd, fun t => keepV_TR (hO.tmp t) himm hI.ext.le, hI.heap, ⟨fun d c hd => (by cases hd), fun d c hd => (by cases hd), fun d e c c' hd => (by cases hd)⟩, ?_,
    fun k x hk => (hI.gnew k x hk).elim (fun ⟨y, hy⟩ => hO.gnew k y hy) (fun h1 => .inr (Nat.le_trans hO.ext.le.nm h1)),
    fun g x hk => (hI.onew g x hk).elim (fun ⟨y, hy⟩ => hO.onew g y hy) (fun h1 => .inr (Nat.le_trans hO.ext.size h1)),
    fun g hs => (hB.1 g hs).elim, fun g hs => (hB.1 g hs).elim, fun _ _ _ hs => (hB.1 _ hs).elim⟩
  have h := hO.ext.trans hI.ext
  exact ⟨h.os, h.tape, h.output, h.size, h.block, h.le, h.inew, fun g hg => h.fnew g (foot_none hg)⟩
theorem keepV_keepV (v : V) : keepV (keepV v) = keepV v := by cases v <;> rfl
/-- .. where the round's frame had boxes already. -/
theorem SR.outer2 {s0 s1 : St} {a1 : Act} (hB : B.plain) (hO : SR B n cx (plainS s0) σ a w) (hR : SR B n cx s1 σ a1 w) (hM : Marks cx (foot cx σ s1.l) B.w w a.defers) (hI : SR (Base.rnd cx σ s1.l w) n cx' s' σ' a' w') : SR B n cx' (plainS s0) σ' a w' := by
  have himm : ∀ g, cx.I g → w'.heap[g]? = w.heap[g]? := fun g hg => hI.ext.block g (hR.heap.ilt g hg) (hR.foot_apart hg)
  refine ⟨hO.size, (hM.keep hI.ext).mono (fun g hg => foot_none hg) (fun g hg => .inl hg), hO.nd, fun t => ?_, hI.heap, ⟨fun d c hd => (by cases hd), fun d c hd => (by cases hd), fun d e c c' hd => (by cases hd)⟩, ?_,
    fun k x hk => (hI.gnew k x hk).elim (fun ⟨y, hy⟩ => hO.gnew k y hy) (fun h1 => .inr (Nat.le_trans hO.ext.le.nm h1)),
    fun g x hk => (hI.onew g x hk).elim (fun ⟨y, hy⟩ => hO.onew g y hy) (fun h1 => .inr (Nat.le_trans hO.ext.size h1)),
    fun g hs => (hB.1 g hs).elim, fun g hs => (hB.1 g hs).elim, fun _ _ _ hs => (hB.1 _ hs).elim⟩
  · have := keepV_TR (hO.tmp t) himm hI.ext.le
    have e : keepV ((plainS s0).t t) = (plainS s0).t t := keepV_keepV _
    rw [e] at this; exact this
  · have h := hR.ext.trans hI.ext
    exact ⟨h.os, h.tape, h.output, h.size, h.block, h.le, h.inew, fun g hg => h.fnew g (foot_none hg)⟩
theorem plainS_plainS (s : St) : plainS (plainS s) = plainS s := by simp [plainS, keepV_keepV]
/-- New blocks came. -/
theorem SR.newBlocks {I' : Nat → Prop} (h : SR B n cx s σ a w) (hN : Newer w w') (hI : MoreI cx.I I' w w') : SR B n { cx with I := I' } s σ a w' :=
  h.grow ⟨hI.1, Nat.le_refl _, fun _ _ => rfl, fun _ _ => rfl⟩ rfl (fun g hg => hI.2 g hg) hN.os hN.tape hN.output hN.size hN.block
/-- How a round may be left. -/
def roundS (N : Hp → Prop) (X : Exit → Hp → Prop) : Exit → St → Hp → Prop
  | .normal, _, σ => N σ
  | .ret, _, σ => X .ret σ
  | .exit id, _, σ => X (.exit id) σ
  | _, _, _ => False
def jumpOf : Exit → Option Code
  | .ret => some .ret
  | .exit id => some (.exit id)
  | _ => none
/-- A block that is nobody's, kept in mind. -/
structure Free (B : Base) (cx : Cx) (σ : Hp) (l : Nat → Option (List V)) (w : World) (r : Nat) (o : Obj) : Prop where
  at' : w.heap[r]? = some o
  new : B.w.heap.size ≤ r
  foot : ¬ foot cx σ l r
  imm : ¬ cx.I r
theorem Free.keep {l l' : Nat → Option (List V)} {r : Nat} {o : Obj} (h : Free B cx σ l w r o) (hx : Ext cx (Abs.foot cx σ l) w cx' (Abs.foot cx' σ' l') w') : Free B cx' σ' l' w' r o :=
  have hlt := lt_of_block h.at'
  ⟨(hx.block r hlt h.foot).trans h.at', h.new, fun hf => (hx.fnew r hf).elim h.foot (fun hs => by omega), fun hi => (hx.inew r hi).elim h.imm (fun h6 => h6.elim h.foot (fun hs => by omega))⟩
theorem Free.bare {l : Nat → Option (List V)} {r : Nat} {o : Obj} (h : Free B cx σ l w r o) : Free B cx σ (fun _ => none) w r o := ⟨h.at', h.new, fun hf => h.foot (foot_none hf), h.imm⟩
theorem Free.newBlocks {l : Nat → Option (List V)} {r : Nat} {o : Obj} {I' : Nat → Prop} (h : Free B cx σ l w r o) (hN : Newer w w') (hI : MoreI cx.I I' w w') : Free B { cx with I := I' } σ l w' r o :=
  have hlt := lt_of_block h.at'
  ⟨(hN.block r hlt).trans h.at', h.new, h.foot, fun hi => (hI.2 r hi).elim h.imm (fun hs => by omega)⟩
theorem Free.put {l : Nat → Option (List V)} {r q : Nat} {o o' : Obj} (h : Free B cx σ l w r o) (hne : r ≠ q) : Free B cx σ l (w.putObj q o') r o := ⟨(World.putObj_heap_other hne).trans h.at', h.new, h.foot, h.imm⟩
theorem Free.set {l : Nat → Option (List V)} {r : Nat} {o : Obj} (o' : Obj) (h : Free B cx σ l w r o) : Free B cx σ l (w.putObj r o') r o' := ⟨World.putObj_heap_same (lt_of_block h.at'), h.new, h.foot, h.imm⟩
/-- Such a block may turn, if it is no mark's. -/
theorem SR.turnF {r : Nat} {o o' : Obj} (hB : B.plain) (h : SR B n cx s σ a w) (hf : Free B cx σ s.l w r o) (hno : ∀ ds, o ≠ .deferred ds) : SR B n cx s σ a (w.putObj r o') :=
  h.turn hB hf.new hf.foot hf.imm ⟨h.defers.1, fun d hd => by
    obtain ⟨D, h1, h2, h3, h4, h5⟩ := h.defers.2 d hd
    exact ⟨D, h1, h2, (World.putObj_heap_other (fun e => by rw [e, hf.at'] at h3; injection h3 with h3; exact hno _ h3)).trans h3, h4, h5⟩⟩
theorem SR.pushMark {D : Nat} (hB : B.plain) (h : SR B n cx s σ a w) (hf : Free B cx σ s.l w D (.deferred (some []))) (hm : ∀ d ∈ a.defers, d ≠ { target := .collected D, args := #[] }) : SR B n cx s σ { a with defers := { target := .collected D, args := #[] } :: a.defers } w :=
  ⟨h.size, ⟨List.pairwise_cons.2 ⟨fun x hx e => hm x hx e.symm, h.defers.1⟩, fun d hd => by
    rcases List.mem_cons.1 hd with rfl | hd
    · exact ⟨D, rfl, hf.new, hf.at', hf.foot, hf.imm⟩
    · exact h.defers.2 d hd⟩, fun e => (by rw [hB.2] at e; cases e), h.tmp, h.heap, h.box, h.ext, h.gnew, h.onew, h.stab, h.stN, h.stS⟩
variable {T : Tab} {Q : Exit → St → Hp → Prop}
theorem AW.rangeFunc {g : Operand} {p : Tmp} {assign body : Code} {f : FuncId} {caps xs : List V} (hg : ev s g = .fn (.func f) [] caps) (hit : Iter P f caps xs) (himm : ∀ v : V, v ∈ caps → Imm v) (hp : p < n)
    (I : Nat → Hp → Prop) (X : Exit → Hp → Prop) (h0 : I 0 σ)
    (hround : ∀ (r : Nat) (i : Nat) (v : V) (σ' : Hp), xs[i]? = some v → I i σ' →
      AWR P n (some r) assign (fun e s1 σ1 => e = .normal ∧ AWR P n (some r) body (roundS (I (i + 1)) X) s1 σ1) ((plainS s).put p v) σ')
    (hdone : ∀ σ', I xs.length σ' → Q .normal (plainS s) σ') (hret : ∀ σ', X .ret σ' → Q .ret (plainS s) σ') (hexit : ∀ id σ', X (.exit id) σ' → Q (.exit id) (plainS s) σ') :
    AW P n (.rangeFunc g #[p] assign body) Q s σ := fun B cx a w hB hsd h => by
  refine wpIn_wide (n := 0) |>.1 (wpIn_rangeFunc fun fn _ => ?_)
  have hgv := h.tr g
  rw [hg] at hgv
  obtain ⟨xs0, ys, hav, hys⟩ : ∃ xs0 ys : List Value, a.eval g = .func (.func f) ⟨xs0⟩ ⟨ys⟩ ∧ xs0 = [] ∧ VAs w cx caps ys := by
    generalize a.eval g = gv at hgv
    cases hgv with
    | v hgv =>
      cases hgv with
      | @fn _ _ _ xs1 ys1 hn h1 hm h2 => exact ⟨xs1, ys1, rfl, List.eq_nil_of_length_eq_zero hn.symm, hm, h2⟩
  obtain ⟨rfl, hys⟩ := hys
  have hBw : B.w.heap.size ≤ w.heap.size := h.ext.size
  obtain ⟨rec, hrec⟩ : ∃ rec : LoopState → Option Code → Loop, rec = fun st pe => { state := st, pending := pe, fn, tmps := a.tmps, params := #[p], assign, body, defers := w.heap.size } := ⟨_, rfl⟩
  obtain ⟨W1, hW1⟩ : ∃ W1, (w.alloc (.deferred (some []))).alloc (.loop (rec .ready none)) = W1 := ⟨_, rfl⟩
  have hsz1 : W1.heap.size = w.heap.size + 2 := by rw [← hW1]; simp
  have hL1 : W1.heap[w.heap.size + 1]? = some (.loop (rec .ready none)) := by
    rw [← hW1]; have := World.alloc_heap_new (w.alloc (.deferred (some []))) (.loop (rec .ready none)); rwa [World.size_alloc] at this
  have hK1 : W1.heap[w.heap.size]? = some (.deferred (some [])) := by
    rw [← hW1]; exact (Below.heap_alloc _ _ _ (by simp)).trans (World.alloc_heap_new w _)
  have hN1 : Newer w W1 := by
    refine ⟨by rw [← hW1]; rfl, by rw [← hW1]; rfl, by rw [← hW1]; rfl, by omega, fun g hg => ?_⟩
    rw [← hW1]; exact (Below.heap_alloc _ _ _ (by simp; omega)).trans (Below.heap_alloc _ _ _ hg)
  have h1 : SR B n cx s σ a W1 := h.newBlocks hN1 ⟨fun _ h => h, fun _ h => .inl h⟩
  have h1b : SR B n cx (plainS s) σ a W1 := by
    refine ⟨h1.size, h1.defers.mono (fun g hg => foot_none hg) (fun g hg => .inl hg), h1.nd, fun t => keepV_TR (h1.tmp t) (fun _ _ => rfl) (.refl _), h1.heap, ⟨fun d c hd => (by cases hd), fun d c hd => (by cases hd), fun d e c c' hd => (by cases hd)⟩, ?_, h1.gnew, h1.onew, h1.stab, h1.stN, fun d c hd => (by cases hd)⟩
    have he := h1.ext
    exact ⟨he.os, he.tape, he.output, he.size, he.block, he.le, he.inew, fun g hg => he.fnew g (foot_none hg)⟩
  have nof : ∀ r, w.heap.size ≤ r → ¬ foot cx σ (fun _ => none) r := fun r hr hf => by
    have := h.foot_lt (foot_none (l := s.l) hf); omega
  have noI : ∀ r, w.heap.size ≤ r → ¬ cx.I r := fun r hr hi => by have := h.heap.ilt r hi; omega
  have hFL : Free B cx σ (fun _ => none) W1 (w.heap.size + 1) (.loop (rec .ready none)) := ⟨hL1, by omega, nof _ (by omega), noI _ (by omega)⟩
  have hFD : Free B cx σ (fun _ => none) W1 w.heap.size (.deferred (some [])) := ⟨hK1, by omega, nof _ (by omega), noI _ (by omega)⟩
  have hmk : ∀ d ∈ a.defers, d ≠ { target := .collected w.heap.size, args := #[] } := fun d hd e => by
    obtain ⟨D, k1, _, k3, _⟩ := h.defers.2 d hd
    rw [k1] at e
    injection e with e1
    injection e1 with e1
    have := lt_of_block k3
    omega
  refine ⟨w.heap.size + 1, [{ target := .collected w.heap.size, args := #[] }], W1, { target := .fn (.func f) ⟨ys⟩, args := #[.func (.yield (w.heap.size + 1)) #[] #[]] }, W1, f,
    #[.func (.yield (w.heap.size + 1)) #[] #[]] ++ ⟨ys⟩, W1, ?_, ?_, fun _ _ => trivial, ?_, fun e => (by cases e), ?_⟩
  · rw [← hW1, hrec]; exact run_enterLoop_outer _ _ _ _ _
  · simp only [resolve, hav]
    simp [go_sem]
  · simp [invoke, go_sem, hit.1]
  · have hVA : VAs W1 (Cx.im cx.I) caps ys := ⟨hys.1, fun i v x hv hx => ((hys.2 i v x hv hx).keep (fun g hg => hN1.block g (h.heap.ilt g hg)) (.refl _)).toIm (himm v (List.mem_of_getElem? hv))⟩
    refine (hit.2 (w.heap.size + 1) W1 cx.I ys
      (fun i I' W => ∃ cx' σ', cx'.I = I' ∧ SR B n cx' (plainS s) σ' a W ∧ I i σ' ∧ Free B cx' σ' (fun _ => none) W (w.heap.size + 1) (.loop (rec .ready none)) ∧ Free B cx' σ' (fun _ => none) W w.heap.size (.deferred (some [])))
      (fun W => ∃ e c cx' σ', jumpOf e = some c ∧ X e σ' ∧ SR B n cx' (plainS s) σ' a W ∧ Free B cx' σ' (fun _ => none) W (w.heap.size + 1) (.loop (rec .done (some c))) ∧ Free B cx' σ' (fun _ => none) W w.heap.size (.deferred (some [])))
      hVA ?_ ?_ ?_ ?_ ⟨cx, σ, rfl, h1b, h0, hFL, hFD⟩).mono ?_
    · rintro i I' W ⟨cx', σ', rfl, k1, _⟩ g hg
      exact k1.heap.ilt g hg
    · rintro i I' W I'' W' ⟨cx', σ', rfl, k1, k2, k3, k4⟩ hN hM
      exact ⟨{ cx' with I := I'' }, σ', rfl, k1.newBlocks hN hM, k2, k3.newBlocks hN hM, k4.newBlocks hN hM⟩
    · rintro I' W I'' W' ⟨e, c, cx', σ', k0, k2, k1, k3, k4⟩ hN _
      have hM : MoreI cx'.I cx'.I W W' := ⟨fun _ h => h, fun _ h => .inl h⟩
      exact ⟨e, c, cx', σ', k0, k2, k1.newBlocks hN hM, k3.newBlocks hN hM, k4.newBlocks hN hM⟩
    · -- one round
      rintro i I' W v x ⟨cx', σ', rfl, k1, k2, k3, k4⟩ hv hx
      have hx' : VR W cx' v x := hx.ofIm (fun _ h => h)
      have hy := run_yield (P := P) (args := #[x]) k3.at' (by rw [hrec]; rfl)
      rw [hrec] at hy
      refine ⟨fn, _, assign, body, hy, roundIn_of_wpIn trivial ?_⟩
      have e0 : ((#[p].zip #[x]).foldl (fun tmps (t, a) => tmps.setIfInBounds t a) a.tmps) = a.tmps.setIfInBounds p x := by simp
      rw [e0]
      have r0 : SR B n cx' (plainS s) σ' { tmps := a.tmps, defers := [] } W := ⟨k1.size, Marks.nil, fun _ => rfl, k1.tmp, k1.heap, k1.box, k1.ext, k1.gnew, k1.onew, k1.stab, k1.stN, k1.stS⟩
      have r1 : SR (Base.rnd cx' σ' (plainS s).l W) n cx' ((plainS s).put p v) σ' { tmps := a.tmps.setIfInBounds p x, defers := [] } W := (r0.rebase rfl).put hp (.v hx')
      refine wpIn_mono (hround (w.heap.size + 1) i v σ' hv k2 _ _ _ _ (fun g hs => hs) rfl r1) ?_
      rintro e a1 w1 ⟨cx1, s1, σ1, r2, rfl, hbody⟩
      have f3 : Free B cx1 σ1 s1.l w1 (w.heap.size + 1) (.loop (rec .ready none)) := k3.keep r2.ext
      have f4 : Free B cx1 σ1 s1.l w1 w.heap.size (.deferred (some [])) := k4.keep r2.ext
      have o1 : SR B n cx1 (plainS (plainS s)) σ1 a w1 := k1.outer hB r2
      rw [plainS_plainS] at o1
      have r3 : SR B n cx1 s1 σ1 a1 w1 := r0.compose hB r2
      refine ⟨_, run_beginRound f3.at' (by rw [hrec]), ?_⟩
      have r4 := r3.turnF (o' := .loop { rec .ready none with state := .busy }) hB f3 (fun ds e => by cases e)
      have f5 := f3.set (.loop { rec .ready none with state := .busy })
      have f6 : Free B cx1 σ1 s1.l (w1.putObj (w.heap.size + 1) (.loop { rec .ready none with state := .busy })) w.heap.size (.deferred (some [])) := f4.put (by omega)
      have o2 : SR B n cx1 (plainS s) σ1 a (w1.putObj (w.heap.size + 1) (.loop { rec .ready none with state := .busy })) := o1.turnF hB f3.bare (fun ds e => by cases e)
      have hd1 : a1.defers = [] := r2.nd rfl
      have m1 := k1.defers.keep r2.ext
      have m2 : Marks cx1 (foot cx1 σ1 s1.l) B.w (w1.putObj (w.heap.size + 1) (.loop { rec .ready none with state := .busy })) a.defers := ⟨m1.1, fun d hd => by
        obtain ⟨D, h1, h2, h3, h4, h5⟩ := m1.2 d hd
        exact ⟨D, h1, h2, (World.putObj_heap_other (fun e => by rw [e, f3.at'] at h3; injection h3 with h3; cases h3)).trans h3, h4, h5⟩⟩
      have r5 := r4.rebase hd1
      -- the outer frame beside the round's boxes
      refine wpIn_mono (hbody _ _ _ _ (fun g hs => hs) rfl r5) ?_
      rintro e2 a2 w3 ⟨cx2, s2, σ2, r6, hq⟩
      have g3 := f5.keep r6.ext
      have g4 := f6.keep r6.ext
      have o3 : SR B n cx2 (plainS s) σ2 a w3 := by
        exact o2.outer2 hB r4 m2 r6
      have hImm : ∀ g, cx'.I g → cx2.I g ∧ w3.heap[g]? = W.heap[g]? := fun g hg => by
        have t1 : cx1.I g := r2.ext.le.I g hg
        have b1 : w1.heap[g]? = W.heap[g]? := r2.ext.block g (k1.heap.ilt g hg) (k1.foot_apart hg)
        have ne : g ≠ w.heap.size + 1 := fun e => k3.imm (by rw [← e]; exact hg)
        have b2 := (World.putObj_heap_other (w := w1) (o := .loop { rec .ready none with state := .busy }) ne).trans b1
        exact ⟨r6.ext.le.I g t1, (r6.ext.block g (r4.heap.ilt g t1) (r4.foot_apart t1)).trans b2⟩
      have fin : ∀ jump : Option Code, (Instr.endRound (w.heap.size + 1) jump).run P w3 = .ok (.bool jump.isNone) (w3.putObj (w.heap.size + 1) (.loop (rec (if jump.isNone then .ready else .done) jump))) := fun jump => by
        have := run_endRound (P := P) jump g3.at'
        rw [hrec] at this ⊢
        exact this
      have done : ∀ st pe, SR B n cx2 (plainS s) σ2 a (w3.putObj (w.heap.size + 1) (.loop (rec st pe))) ∧ Free B cx2 σ2 (fun _ => none) (w3.putObj (w.heap.size + 1) (.loop (rec st pe))) (w.heap.size + 1) (.loop (rec st pe)) ∧ Free B cx2 σ2 (fun _ => none) (w3.putObj (w.heap.size + 1) (.loop (rec st pe))) w.heap.size (.deferred (some [])) := fun st pe =>
        ⟨o3.turnF hB g3.bare (fun ds e => by cases e), g3.bare.set _, g4.bare.put (by omega)⟩
      cases e2 with
      | normal =>
        obtain ⟨d1, d2, d3⟩ := done .ready none
        refine ⟨_, _, fin none, .inl ⟨rfl, cx2.I, ⟨cx2, σ2, rfl, d1, hq, d2, d3⟩, fun g hg => ⟨(hImm g hg).1, ?_⟩⟩⟩
        exact (World.putObj_heap_other (fun e => k3.imm (by rw [← e]; exact hg))).trans (hImm g hg).2
      | ret =>
        obtain ⟨d1, d2, d3⟩ := done .done (some .ret)
        exact ⟨_, _, fin (some .ret), .inr ⟨rfl, .ret, .ret, cx2, σ2, rfl, hq, d1, d2, d3⟩⟩
      | exit id =>
        obtain ⟨d1, d2, d3⟩ := done .done (some (.exit id))
        exact ⟨_, _, fin (some (.exit id)), .inr ⟨rfl, .exit id, .exit id, cx2, σ2, rfl, hq, d1, d2, d3⟩⟩
      | goto t => exact hq.elim
      | panic c => exact hq.elim
      | outgrown => exact hq.elim
    · -- behind the iterator
      have last : ∀ {cx' : Cx} {σ' : Hp} {W : World} {st : LoopState} {pe : Option Code}, st ≠ .busy → SR B n cx' (plainS s) σ' a W → Free B cx' σ' (fun _ => none) W (w.heap.size + 1) (.loop (rec st pe)) → Free B cx' σ' (fun _ => none) W w.heap.size (.deferred (some [])) →
          ∃ W', (Instr.endLoop (w.heap.size + 1)).run P W = .ok pe W' ∧ SR B n cx' (plainS s) σ' { a with defers := { target := .collected w.heap.size, args := #[] } :: a.defers } W' := fun {cx' σ' W st pe} hst k1 k3 k4 => by
        have := run_endLoop (P := P) k3.at' (by rw [hrec]; exact hst)
        refine ⟨_, by rw [hrec] at this; exact this, ?_⟩
        exact (k1.turnF hB k3 (fun ds e => by cases e)).pushMark hB (k4.put (by omega)) hmk
      rintro e W2 ⟨⟨v, rfl⟩, (⟨I', cx', σ', _, k1, k2, k3, k4⟩ | ⟨e, c, cx', σ', k0, k2, k1, k3, k4⟩)⟩
      · obtain ⟨W', m1, m2⟩ := last (by decide) k1 k3 k4
        exact ⟨none, W', m1, ⟨cx', _, σ', m2, hdone σ' k2⟩⟩
      · obtain ⟨W', m1, m2⟩ := last (by decide) k1 k3 k4
        refine ⟨some c, W', m1, ?_⟩
        cases e with
        | ret => injection k0 with k0; subst k0; exact wpIn_ret ⟨cx', _, σ', m2, hret σ' k2⟩
        | exit id => injection k0 with k0; subst k0; exact wpIn_exit ⟨cx', _, σ', m2, hexit id σ' k2⟩
        | _ => cases k0
end
end Go.Abs
namespace Go.Abs
open Go
section
variable {P : Program} {σ : Hp} {cx : Cx} {w : World}
theorem delObj_sub (σ : Hp) (g : Nat) : (∀ x c, (σ.setObj g none).obj x = some c → σ.obj x = some c) ∧ (∀ k x, (σ.setObj g none).gr k = some x → σ.gr k = some x) :=
  ⟨fun x c h => by
    simp only [Hp.setObj] at h
    by_cases e : x = g
    · simp [e] at h
    · simpa [e] using h, fun _ _ h => h⟩
/-- An object, from now on written by nobody. -/
theorem HR.hush (h : HR cx σ w) {g : Nat} {cells : List V} (hg : σ.obj g = some cells) (hm : isMap cells = false) (_c : cells ≠ []) :
    HR (cx.addI g) (σ.setObj g none) w ∧ VR w (cx.addI g) (.ip [cells] 0 0) (.pointer (some ⟨g, 0, none⟩)) := by
  obtain ⟨o, ho, hor⟩ := h.obj g cells hg
  obtain ⟨T', cs, rfl, hvs⟩ := hor.row hm
  have sub : HR cx (σ.setObj g none) w := h.sub (delObj_sub σ g).1 (delObj_sub σ g).2
  have hno : ¬ (σ.setObj g none).own cx g := by
    rintro (⟨c, hc⟩ | ⟨j, x, hj, hb⟩)
    · simp [Hp.setObj] at hc
    · exact h.mix j x g cells hj hg hb
  refine ⟨sub.keep (cx.le_addI g) (fun _ => False) (fun _ h => h.elim) (fun _ h => h.elim) (fun g' (hg' : cx.I g' ∨ g' = g) ho => ?_) (fun g' (hg' : cx.I g' ∨ g' = g) => ?_) (fun _ _ _ => rfl), ?_⟩
  · rcases hg' with h1 | h1
    · exact sub.apart g' ho h1
    · exact hno (h1 ▸ ho)
  · rcases hg' with h1 | h1
    · exact h.ilt g' h1
    · rw [h1]; exact lt_of_block ho
  · have hvk := hvs.keep (w' := w) (cx' := cx.addI g) (fun _ _ => rfl) (cx.le_addI g)
    have := VR.ip (w := w) (cx := cx.addI g) (es := [cells]) (sz := cells.length) (b := g) (o := 0) (i := 0) (off := 0) (fun i j => cs.getD j undef) (.inr rfl) (by simp)
      (fun i e he => by
        rcases i with _ | i
        · simp at he; rw [← he]
        · simp at he)
      (fun i j hi hj => by
        have h0 : i = 0 := by simp at hi; exact hi
        subst h0
        have hjl : j < cs.length := by rw [← hvs.1]; exact hj
        simp [World.cell?, ho, List.getD, hjl])
      (fun i e j v he hv => by
        rcases i with _ | i
        · simp at he; subst he
          have hjl : j < cs.length := by rw [← hvs.1]; exact (List.getElem?_eq_some_iff.1 hv).1
          exact hvk.2.2 j v _ hv (by simp [List.getD, hjl])
        · simp at he)
      (fun i j hi hj => by
        have hjl : j < cs.length := by rw [← hvs.1]; exact hj
        exact hvs.2.1 _ (by simp only [List.getD, List.getElem?_eq_getElem hjl]; exact List.getElem_mem _))
    simpa using this
/-- A call whose result is a function over a variable of the call's own that nobody writes any more. -/
theorem ACalls.sealF {f : FuncId} {args : List V} {R R' : V → Hp → Prop} (h : ACalls P f args σ R)
    (hr : ∀ v σ', R v σ' → ∃ g cells F, v = .fn F [] [.c (.pointer (some ⟨g, 0, none⟩))] ∧ σ'.obj g = some cells ∧ isMap cells = false ∧ cells ≠ [] ∧ R' (.fn F [] [.ip [cells] 0 0]) (σ'.setObj g none)) : ACalls P f args σ R' := by
  refine ⟨h.1, fun cx w xs hH ha => (h.2 cx w xs hH ha).mono fun e w' ⟨v, r, cx', σ', h1, h2, h3, h4⟩ => ?_⟩
  obtain ⟨g, cells, F, rfl, hg, hm, hc, hR⟩ := hr v σ' h4
  obtain ⟨hH2, hip⟩ := h3.heap.hush hg hm hc
  have hsub : ∀ g', (σ'.setObj g none).own (cx'.addI g) g' → σ'.own cx' g' := fun g' hg' => by
    rcases hg' with ⟨c, hc⟩ | ⟨j, x, hj, hb⟩
    · exact .inl ⟨c, (delObj_sub σ' g).1 _ _ hc⟩
    · exact .inr ⟨j, x, hj, hb⟩
  have hfn : VR w' (cx'.addI g) (.fn F [] [.ip [cells] 0 0]) r := by
    cases h2 with
    | @fn _ _ _ xs1 ys1 hn h5 hl h6 =>
      obtain rfl : xs1 = [] := List.eq_nil_of_length_eq_zero hn.symm
      obtain ⟨y, rfl⟩ : ∃ y, ys1 = [y] := List.length_eq_one_iff.1 hl.symm
      have hy := h6 0 _ _ rfl rfl
      obtain rfl : y = .pointer (some ⟨g, 0, none⟩) := by cases hy; rfl
      refine .fn rfl (fun i v x hv => by cases hv) rfl (fun i v x hv hx => ?_)
      rcases i with _ | i
      · simp at hv hx; subst hv; subst hx; exact hip
      · simp at hv
  refine ⟨_, r, _, _, h1, hfn, ⟨hH2, ⟨h3.ext.os, h3.ext.tape, h3.ext.output, h3.ext.size, h3.ext.block, h3.ext.le.trans (cx'.le_addI g), fun g' (hg' : cx'.I g' ∨ g' = g) => ?_, fun g' hg' => h3.ext.fnew g' (hsub g' hg')⟩, fun k x hk => h3.gnew k x hk, fun g' x hx => h3.onew g' x ((delObj_sub σ' g).1 _ _ hx)⟩, hR⟩
  rcases hg' with hg' | rfl
  · exact h3.ext.inew g' hg'
  · rcases h3.ext.fnew g' (.inl ⟨_, hg⟩) with h | h
    · exact .inr (.inl h)
    · exact .inr (.inr h)
end
end Go.Abs
namespace Go.Abs
open Go
section
variable {P : Program} {σ : Hp}
/-- Two constants, told of as one. -/
theorem tup2_const {u v : Value} {w w' : World} {cx cx' : Cx} {x : Value} (h : VR w cx (.tup [.c u, .c v]) x) : VR w' cx' (.tup [.c u, .c v]) x := by
  cases h with
  | tup hn h =>
    rename_i xs
    refine .tup hn fun i y x hy hx => ?_
    have := h i y x hy hx
    rcases i with _ | _ | i
    · simp at hy; subst hy; cases this; exact .c _
    · simp at hy; subst hy; cases this; exact .c _
    · simp at hy
/-- A call of a reader of a growing list, whose result holds none. -/
theorem PCalls.lendT {f : FuncId} {args : List V} {R : V → Prop} {k : Nat} {T : TypeId × Nat} {es : List (List V)} (h : PCalls P f (args.map (fzV k es)) R) (hk : σ.gr k = some (T, es)) (hR : ∀ v, R v → ∃ a b, v = .tup [.c a, .c b]) :
    ACalls P f args σ (fun v σ' => σ' = σ ∧ R v) := by
  refine ⟨h.1, fun cx w xs hH ha => ?_⟩
  obtain ⟨cx1, hle, hL, hI, hH1, hv1⟩ := hH.freeze hk
  have ha1 : VAs w cx1 (args.map (fzV k es)) xs := ⟨by simpa using ha.1, fun i v x hi hx => by
    simp only [List.getElem?_map, Option.map_eq_some_iff] at hi
    obtain ⟨u, hu, rfl⟩ := hi
    exact fzV_VR hle hv1 (ha.2 i u x hu hx)⟩
  refine (h.2 cx1 w xs (hH1.sub (fun _ _ h => by cases h) (fun _ _ h => by cases h)) ha1).mono fun e w' ⟨v, r, cx2, σ2, h1, h2, h3, h4, h5⟩ => ?_
  subst h4
  obtain ⟨u, u', rfl⟩ := hR v h5
  have hb : ∀ g, g < w.heap.size → w'.heap[g]? = w.heap[g]? := fun g hg => h3.ext.block g hg own_empty
  exact ⟨_, r, cx, σ, h1, tup2_const h2, ⟨hH.new (.refl _) (fun g hg => .inl hg) h3.ext.size hb, ⟨h3.ext.os, h3.ext.tape, h3.ext.output, h3.ext.size, fun g hg _ => hb g hg, .refl _, fun g hg => .inl hg, fun g hg => .inl hg⟩, fun _ x hk => .inl ⟨x, hk⟩, fun _ x hk => .inl ⟨x, hk⟩⟩, rfl, h5⟩
end
end Go.Abs
namespace Go.Abs
open Go
section
variable {P : Program}
/-- A call that leaves things of its own behind, of which nobody knows. -/
theorem ACalls.bare {f : FuncId} {args : List V} {R : V → Hp → Prop} {R' : V → Prop} (h : ACalls P f args Hp.empty R) (hr : ∀ v σ', R v σ' → R' v) : PCalls P f args R' :=
  ⟨h.1, fun cx w xs hH ha => (h.2 cx w xs hH ha).mono fun e w' ⟨v, r, cx', σ', h1, h2, h3, h4⟩ =>
    ⟨v, r, cx', Hp.empty, h1, h2, ⟨h3.heap.sub (fun _ _ h => by cases h) (fun _ _ h => by cases h), ⟨h3.ext.os, h3.ext.tape, h3.ext.output, h3.ext.size, h3.ext.block, h3.ext.le, h3.ext.inew, fun g hg => (own_empty hg).elim⟩, fun k x hk => (by cases hk), fun g x hx => (by cases hx)⟩, rfl, hr v σ' h4⟩⟩
end
end Go.Abs
namespace Go.Abs
open Go
section
variable {P : Program} {σ : Hp}
/-- A call that keeps all there was: what is new is forgotten. -/
theorem ACalls.keepH {f : FuncId} {args : List V} {R R' : V → Hp → Prop} (h : ACalls P f args σ R)
    (hr : ∀ v σ', R v σ' → (∀ g c, σ.obj g = some c → σ'.obj g = some c) ∧ (∀ k x, σ.gr k = some x → σ'.gr k = some x) ∧ R' v σ) : ACalls P f args σ R' :=
  ⟨h.1, fun cx w xs hH ha => (h.2 cx w xs hH ha).mono fun e w' ⟨v, r, cx', σ', h1, h2, h3, h4⟩ => by
    obtain ⟨ho, hg, hR⟩ := hr v σ' h4
    exact ⟨v, r, cx', σ, h1, h2, ⟨h3.heap.sub ho hg, ⟨h3.ext.os, h3.ext.tape, h3.ext.output, h3.ext.size, h3.ext.block, h3.ext.le, h3.ext.inew, fun g hg' => h3.ext.fnew g (own_sub ho hg hg')⟩, fun k x hk => .inl ⟨x, hk⟩, fun g x hx => .inl ⟨x, hx⟩⟩, hR⟩⟩
end
end Go.Abs
namespace Go.Abs
open Go
section
variable {P : Program} {σ : Hp} {cx : Cx} {w : World}
/-- How a value reads while nobody writes: the growing lists as lists that stand. -/
def thaw (σ : Hp) : Nat → V → V
  | 0, v => v
  | n + 1, .gl k => match σ.gr k with
    | some (_, es) => .sl (es.map fun e => e.map (thaw σ n))
    | none => .gl k
  | n + 1, .agg vs => .agg (vs.map (thaw σ n))
  | n + 1, .tup vs => .tup (vs.map (thaw σ n))
  | n + 1, .fn f us vs => .fn f (us.map (thaw σ n)) (vs.map (thaw σ n))
  | _ + 1, v => v
/-- All that is owned, lent. -/
def Cx.lent (cx : Cx) (σ : Hp) : Cx := { cx with I := fun g => cx.I g ∨ σ.own cx g }
theorem Cx.le_lent : cx.le (cx.lent σ) := ⟨fun _ h => .inl h, Nat.le_refl _, fun _ _ => rfl, fun _ _ => rfl⟩
theorem HR.lent (h : HR cx σ w) : HR (cx.lent σ) Hp.empty w where
  obj g c hc := by cases hc
  gr k T es hk := by cases hk
  two k k' x x' g hk := by cases hk
  mix k x g c hk := by cases hk
  apart g hg := (own_empty hg).elim
  ilt g hg := hg.elim (h.ilt g) h.own_lt
theorem map_get {α β : Type} {f : α → β} {l : List α} {i : Nat} {y : β} (h : (l.map f)[i]? = some y) : ∃ x, l[i]? = some x ∧ f x = y := by
  simpa [Option.map_eq_some_iff] using h
theorem thaw_VR (h : HR cx σ w) : ∀ (n : Nat) (v : V) (x : Value), VR w cx v x → VR w (cx.lent σ) (thaw σ n v) x
  | 0, v, x, hv => hv.keep (fun _ _ => rfl) Cx.le_lent
  | n + 1, v, x, hv => by
    have base : ∀ {u : V} {y : Value}, VR w cx u y → VR w (cx.lent σ) u y := fun hu => hu.keep (fun _ _ => rfl) Cx.le_lent
    cases hv with
    | c x => exact .c x
    | nils => exact .nils
    | nile a => exact .nile a
    | sl f hI hcap hlen hc hr h1 => exact base (.sl f hI hcap hlen hc hr h1)
    | ip f hI hi hlen hc hr h1 => exact base (.ip f hI hi hlen hc hr h1)
    | gp hk hg => exact base (.gp hk hg)
    | agg h1 hn hh =>
      refine .agg h1 (by simpa using hn) fun i v x hv hx => ?_
      obtain ⟨u, hu, rfl⟩ := map_get hv
      exact thaw_VR h n _ _ (hh i u x hu hx)
    | tup hn hh =>
      refine .tup (by simpa using hn) fun i v x hv hx => ?_
      obtain ⟨u, hu, rfl⟩ := map_get hv
      exact thaw_VR h n _ _ (hh i u x hu hx)
    | fn hn hh hm hg =>
      refine .fn (by simpa using hn) (fun i v x hv hx => ?_) (by simpa using hm) fun i v x hv hx => ?_
      · obtain ⟨u, hu, rfl⟩ := map_get hv
        exact thaw_VR h n _ _ (hh i u x hu hx)
      · obtain ⟨u, hu, rfl⟩ := map_get hv
        exact thaw_VR h n _ _ (hg i u x hu hx)
    | @gl k hk hs =>
      simp only [thaw]
      split
      · rename_i T es hg
        obtain ⟨hkn, hZ, hel, xs, hown, hxs⟩ := h.gr k T es hg
        rcases hown.2 with ⟨hM, h0⟩ | ⟨g, cap, cur, hM, _, hbl, hcap, _, hcs, htk⟩
        · have : es = [] := List.eq_nil_of_length_eq_zero h0
          subst this
          rw [hM]; exact .nils
        · have hg' : (cx.M k).ownBlock = some g := by rw [hM]; rfl
          rw [hM]
          have hcap' : (es.map fun e => e.map (thaw σ n)).length ≤ cap := by simpa using hcap
          have hr : VRs w (cx.lent σ) (es.map fun e => e.map (thaw σ n)).flatten xs := by
            have hfl : (es.map fun e => e.map (thaw σ n)).flatten = es.flatten.map (thaw σ n) := by simp [List.map_flatten]
            rw [hfl]
            refine ⟨by rw [List.length_map]; exact hxs.1, hxs.2.1, fun i v x hv hx => ?_⟩
            obtain ⟨u, hu, rfl⟩ := map_get hv
            exact thaw_VR h n _ _ (hxs.2.2 i u x hu hx)
          have := VR.sl_of_row (w := w) (cx := cx.lent σ) (es := es.map fun e => e.map (thaw σ n)) (sz := cx.Z k) (b := g) (o := 0) (cap := cap) (.inr (.inr ⟨k, _, hg, hg'⟩)) hcap' (fun e he => by
            obtain ⟨e', he', rfl⟩ := List.mem_map.1 he
            simpa using hel e' he') hr (fun j x hj => by
            rw [cell_of_row w g (0 + j) cur _ _ hbl, Nat.zero_add]
            have hj' : xs[j]? = (cur.toList.take (es.length * cx.Z k))[j]? := by rw [htk]
            rw [hj'] at hj
            rw [List.getElem?_take] at hj
            split at hj
            · simpa using hj
            · cases hj)
          simpa using this
      · exact base (.gl hk hs)
/-- Constants, or tuples of such. -/
def konst : V → Bool
  | .c _ => true
  | .agg vs => vs.all fun v => match v with | .c _ => true | _ => false
  | .tup vs => vs.all fun v => match v with | .c _ => true | .agg us => us.all (fun u => match u with | .c _ => true | _ => false) | _ => false
  | _ => false
theorem konst_VR {w w' : World} {cx cx' : Cx} {v : V} {x : Value} (h : VR w cx v x) (hk : konst v = true) : VR w' cx' v x := by
  have one : ∀ {u : V} {y : Value}, VR w cx u y → (match u with | .c _ => true | _ => false) = true → VR w' cx' u y := fun {u y} hu hh => by
    cases hu <;> first | exact .c _ | cases hh
  have two : ∀ {us : List V} {y : Value}, VR w cx (.agg us) y → (us.all fun v => match v with | .c _ => true | _ => false) = true → VR w' cx' (.agg us) y := fun {us y} hu hh => by
    cases hu with
    | agg h1 hn h => exact .agg h1 hn fun i v x hv hx => one (h i v x hv hx) (List.all_eq_true.1 hh v (List.mem_of_getElem? hv))
  cases v with
  | c y => cases h; exact .c _
  | agg vs => exact two h hk
  | tup vs =>
    cases h with
    | tup hn h =>
      refine .tup hn fun i v x hv hx => ?_
      have hv1 := h i v x hv hx
      have hk1 := List.all_eq_true.1 hk v (List.mem_of_getElem? hv)
      cases v with
      | c y => cases hv1; exact .c _
      | agg us => exact two hv1 hk1
      | _ => cases hk1
  | _ => cases hk
/-- A call of a reader of whatever is owned, whose result holds none of it. -/
theorem PCalls.lendAll {f : FuncId} {args : List V} {R : V → Prop} (n : Nat) (h : PCalls P f (args.map (thaw σ n)) R) (hR : ∀ v, R v → konst v = true) :
    ACalls P f args σ (fun v σ' => σ' = σ ∧ R v) := by
  refine ⟨h.1, fun cx w xs hH ha => ?_⟩
  have ha1 : VAs w (cx.lent σ) (args.map (thaw σ n)) xs := ⟨by simpa using ha.1, fun i v x hi hx => by
    obtain ⟨u, hu, rfl⟩ := map_get hi
    exact thaw_VR hH n u x (ha.2 i u x hu hx)⟩
  refine (h.2 (cx.lent σ) w xs hH.lent ha1).mono fun e w' ⟨v, r, cx2, σ2, h1, h2, h3, h4, h5⟩ => ?_
  subst h4
  have hb : ∀ g, g < w.heap.size → w'.heap[g]? = w.heap[g]? := fun g hg => h3.ext.block g hg own_empty
  exact ⟨_, r, cx, σ, h1, konst_VR h2 (hR v h5), ⟨hH.new (.refl _) (fun g hg => .inl hg) h3.ext.size hb, ⟨h3.ext.os, h3.ext.tape, h3.ext.output, h3.ext.size, fun g hg _ => hb g hg, .refl _, fun g hg => .inl hg, fun g hg => .inl hg⟩, fun _ x hk => .inl ⟨x, hk⟩, fun _ x hk => .inl ⟨x, hk⟩⟩, rfl, h5⟩
end
end Go.Abs
namespace Go.Abs
open Go
section
variable {P : Program} {σ σ0 σ1 : Hp} {cx cx' : Cx} {w w' : World}
/-- One heap within another. -/
structure Hp.Le (σ0 σ : Hp) : Prop where
  obj : ∀ g c, σ0.obj g = some c → σ.obj g = some c
  gr : ∀ k x, σ0.gr k = some x → σ.gr k = some x
theorem Hp.Le.refl (σ : Hp) : Hp.Le σ σ := ⟨fun _ _ h => h, fun _ _ h => h⟩
theorem Hp.Le.empty (σ : Hp) : Hp.Le Hp.empty σ := ⟨fun _ _ h => (by cases h), fun _ _ h => (by cases h)⟩
theorem Hp.Le.own {g : Nat} (h : Hp.Le σ0 σ) (hg : σ0.own cx g) : σ.own cx g := own_sub h.obj h.gr hg
theorem over_obj {g : Nat} {c : List V} (h : (σ1.over σ σ0).obj g = some c) : σ1.obj g = some c ∨ (σ1.obj g = none ∧ σ0.obj g = none ∧ σ.obj g = some c) := by
  simp only [Hp.over] at h
  split at h
  · exact .inl (by rename_i e; rw [e, h])
  · rename_i e
    split at h
    · cases h
    · exact .inr ⟨e, ‹_›, h⟩
theorem over_gr {k : Nat} {x : (TypeId × Nat) × List (List V)} (h : (σ1.over σ σ0).gr k = some x) : σ1.gr k = some x ∨ (σ1.gr k = none ∧ σ0.gr k = none ∧ σ.gr k = some x) := by
  simp only [Hp.over] at h
  split at h
  · exact .inl (by rename_i e; rw [e, h])
  · rename_i e
    split at h
    · cases h
    · exact .inr ⟨e, ‹_›, h⟩
/-- What is beside is not within. -/
theorem HR.beside_gr (hH : HR cx σ w) (hs : Hp.Le σ0 σ) {k g : Nat} {x : (TypeId × Nat) × List (List V)} (h0 : σ0.gr k = none) (hk : σ.gr k = some x) (hg : (cx.M k).ownBlock = some g) : ¬ σ0.own cx g := by
  rintro (⟨c, hc⟩ | ⟨j, y, hj, hb⟩)
  · exact hH.mix k x g c hk (hs.obj g c hc) hg
  · have := hH.two k j x y g hk (hs.gr j y hj) hg hb
    subst this
    rw [h0] at hj; cases hj
theorem HR.beside_obj (hH : HR cx σ w) (hs : Hp.Le σ0 σ) {g : Nat} {c : List V} (h0 : σ0.obj g = none) (hg : σ.obj g = some c) : ¬ σ0.own cx g := by
  rintro (⟨c', hc⟩ | ⟨j, y, hj, hb⟩)
  · rw [h0] at hc; cases hc
  · exact hH.mix j y g c (hs.gr j y hj) hg hb
/-- What a call left of the part that it was told of, beside the rest. -/
theorem Left.frame (hH : HR cx σ w) (hs : Hp.Le σ0 σ) (h : Left cx σ0 w cx' σ1 w') : Left cx σ w cx' (σ1.over σ σ0) w' := by
  have himm : ∀ g, cx.I g → w'.heap[g]? = w.heap[g]? := fun g hg => h.ext.block g (hH.ilt g hg) (fun ho => hH.apart g (hs.own ho) hg)
  have hle := h.ext.le
  have hfar : ∀ g, σ.own cx g → ¬ σ0.own cx g → ¬ σ1.own cx' g := fun g h1 h2 h3 => (h.ext.fnew g h3).elim h2 (fun h4 => by have := hH.own_lt h1; omega)
  have kM : ∀ k x, σ.gr k = some x → cx'.M k = cx.M k := fun k x hk => hle.M k (hH.gr k x.1 x.2 hk).1
  have hr : HR cx' (σ1.over σ σ0) w' := {
    obj := fun g c hc => by
      rcases over_obj hc with h1 | ⟨_, h0, h1⟩
      · exact h.heap.obj g c h1
      · obtain ⟨o, e1, e2⟩ := hH.obj g c h1
        exact ⟨o, (h.ext.block g (lt_of_block e1) (hH.beside_obj hs h0 h1)).trans e1, e2.keep himm hle⟩
    gr := fun k T es hk => by
      rcases over_gr hk with h1 | ⟨_, h0, h1⟩
      · exact h.heap.gr k T es h1
      · obtain ⟨a1, a0, a2, xs, a3, a4⟩ := hH.gr k T es h1
        refine ⟨Nat.lt_of_lt_of_le a1 hle.nm, by rw [hle.Z k a1]; exact a0, by rw [hle.Z k a1]; exact a2, xs, ?_, a4.keep himm hle⟩
        rw [hle.Z k a1, hle.M k a1]
        refine ⟨a3.1, ?_⟩
        rcases a3.2 with h5 | ⟨g, cap, cur, e1, e2, e3, e4⟩
        · exact .inl h5
        · exact .inr ⟨g, cap, cur, e1, e2, (h.ext.block g (lt_of_block e3) (hH.beside_gr hs h0 h1 (by rw [e1]; rfl))).trans e3, e4⟩
    two := fun k k' x x' g hk hk' h1 h2 => by
      rcases over_gr hk with a | ⟨_, a0, a⟩
      · rcases over_gr hk' with b | ⟨_, b0, b⟩
        · exact h.heap.two k k' x x' g a b h1 h2
        · rw [kM k' x' b] at h2
          exact (hfar g (.inr ⟨k', x', b, h2⟩) (hH.beside_gr hs b0 b h2) (.inr ⟨k, x, a, h1⟩)).elim
      · rw [kM k x a] at h1
        rcases over_gr hk' with b | ⟨_, b0, b⟩
        · exact (hfar g (.inr ⟨k, x, a, h1⟩) (hH.beside_gr hs a0 a h1) (.inr ⟨k', x', b, h2⟩)).elim
        · rw [kM k' x' b] at h2
          exact hH.two k k' x x' g a b h1 h2
    mix := fun k x g c hk hc h1 => by
      rcases over_gr hk with a | ⟨_, a0, a⟩
      · rcases over_obj hc with b | ⟨_, b0, b⟩
        · exact h.heap.mix k x g c a b h1
        · exact hfar g (.inl ⟨c, b⟩) (hH.beside_obj hs b0 b) (.inr ⟨k, x, a, h1⟩)
      · rw [kM k x a] at h1
        rcases over_obj hc with b | ⟨_, b0, b⟩
        · exact hfar g (.inr ⟨k, x, a, h1⟩) (hH.beside_gr hs a0 a h1) (.inl ⟨c, b⟩)
        · exact hH.mix k x g c a b h1
    apart := fun g hg hi => by
      have rest : ∀ g, σ.own cx g → ¬ σ0.own cx g → ¬ cx'.I g := fun g h1 h2 h3 => by
        rcases h.ext.inew g h3 with h4 | h4 | h4
        · exact hH.apart g h1 h4
        · exact h2 h4
        · have := hH.own_lt h1; omega
      rcases hg with ⟨c, hc⟩ | ⟨k, x, hk, hb⟩
      · rcases over_obj hc with b | ⟨_, b0, b⟩
        · exact h.heap.apart g (.inl ⟨c, b⟩) hi
        · exact rest g (.inl ⟨c, b⟩) (hH.beside_obj hs b0 b) hi
      · rcases over_gr hk with a | ⟨_, a0, a⟩
        · exact h.heap.apart g (.inr ⟨k, x, a, hb⟩) hi
        · rw [kM k x a] at hb
          exact rest g (.inr ⟨k, x, a, hb⟩) (hH.beside_gr hs a0 a hb) hi
    ilt := h.heap.ilt }
  refine ⟨hr, ⟨h.ext.os, h.ext.tape, h.ext.output, h.ext.size, fun g hg hf => h.ext.block g hg (fun ho => hf (hs.own ho)), hle, fun g hg => (h.ext.inew g hg).imp id (Or.imp hs.own id), fun g hg => ?_⟩, fun k x hk => ?_, fun g x hg => ?_⟩
  · rcases hg with ⟨c, hc⟩ | ⟨k, x, hk, hb⟩
    · rcases over_obj hc with b | ⟨_, b0, b⟩
      · exact (h.ext.fnew g (.inl ⟨c, b⟩)).imp hs.own id
      · exact .inl (.inl ⟨c, b⟩)
    · rcases over_gr hk with a | ⟨_, a0, a⟩
      · exact (h.ext.fnew g (.inr ⟨k, x, a, hb⟩)).imp hs.own id
      · rw [kM k x a] at hb
        exact .inl (.inr ⟨k, x, a, hb⟩)
  · rcases over_gr hk with a | ⟨_, a0, a⟩
    · exact (h.gnew k x a).imp (fun ⟨y, hy⟩ => ⟨y, hs.gr k y hy⟩) id
    · exact .inl ⟨x, a⟩
  · rcases over_obj hg with b | ⟨_, b0, b⟩
    · exact (h.onew g x b).imp (fun ⟨y, hy⟩ => ⟨y, hs.obj g y hy⟩) id
    · exact .inl ⟨x, b⟩
/-- What is new in a heap is not in another. -/
structure Hp.Fresh (σ1 σ0 σ : Hp) : Prop where
  obj : ∀ g c, σ1.obj g = some c → σ0.obj g = none → σ.obj g = none
  gr : ∀ k x, σ1.gr k = some x → σ0.gr k = none → σ.gr k = none
/-- A call that was told of a part of the heap: the rest stays. -/
theorem ACalls.frame {f : FuncId} {args : List V} {R : V → Hp → Prop} (h : ACalls P f args σ0 R) (hs : Hp.Le σ0 σ) : ACalls P f args σ (fun v σ' => ∃ σ1, R v σ1 ∧ Hp.Fresh σ1 σ0 σ ∧ σ' = σ1.over σ σ0) :=
  ⟨h.1, fun cx w xs hH ha => (h.2 cx w xs (hH.sub hs.obj hs.gr) ha).mono fun e w' ⟨v, r, cx', σ1, h1, h2, h3, h4⟩ =>
    ⟨v, r, cx', _, h1, h2, h3.frame hH hs, σ1, h4, ⟨fun g c hc h0 => by
      rcases h3.onew g c hc with ⟨y, hy⟩ | hg
      · rw [h0] at hy; cases hy
      · cases e : σ.obj g with
        | none => rfl
        | some y => have := hH.own_lt (.inl ⟨y, e⟩); omega, fun k x hk h0 => by
      rcases h3.gnew k x hk with ⟨y, hy⟩ | hg
      · rw [h0] at hy; cases hy
      · cases e : σ.gr k with
        | none => rfl
        | some y => have := (hH.gr k y.1 y.2 e).1; omega⟩, rfl⟩⟩
theorem over_empty : σ1.over σ Hp.empty = ⟨fun g => (σ1.obj g).or (σ.obj g), fun k => (σ1.gr k).or (σ.gr k)⟩ := by
  simp only [Hp.over, Hp.empty, Hp.mk.injEq]
  constructor
  · funext g; cases σ1.obj g <;> rfl
  · funext k; cases σ1.gr k <;> rfl
end
end Go.Abs
namespace Go.Abs
open Go Go.RowKit
section
variable {P : Program} {n : Nat} {s s' : St} {σ σ' : Hp} {B : Base} {cx cx' : Cx} {a a' : Act} {w w' : World}
/-- An iterator whose elements are structs of one list that is the round's own: as 'Iter'; 'xs': the lists. -/
def IterO (P : Program) (f : FuncId) (caps : List V) (T : TypeId) (sz : Nat) (xs : List (List (List V))) : Prop :=
  (∀ (zs : Array Value) (w : World), (callFunc f zs).run P w = .ok (.enter f zs) w) ∧
  ∀ (l : Nat) (W0 : World) (I0 : Nat → Prop) (cv : List Value) (J : Nat → (Nat → Prop) → World → Prop) (Jx : World → Prop),
    VAs W0 (Cx.im I0) caps cv →
    (∀ i I W, J i I W → ∀ g, I g → g < W.heap.size) →
    (∀ i I W I' W', J i I W → Newer W W' → MoreI I I' W W' → J i I' W') →
    (∀ I W I' W', Jx W → Newer W W' → MoreI I I' W W' → Jx W') →
    (∀ i I W I' W' es x, J i I W → xs[i]? = some es → Newer W W' → MoreI I I' W W' → (∀ e : List V, e ∈ es → e.length = sz) →
      (∃ M ys, x = .agg #[M] ∧ M.oneCell' = true ∧ W'.ownsRow 0 T sz M es.length ys ∧ VRs W' (Cx.im I') es.flatten ys ∧ ∀ g, M.ownBlock = some g → W.heap.size ≤ g ∧ ¬ I' g ∧ g < W'.heap.size) →
      YieldAt Fence.wide 0 P l #[x] W' fun e W2 =>
      (e = .returned (.bool true) ∧ ∃ I2, J (i + 1) I2 W2 ∧ (∀ g, I' g → I2 g ∧ W2.heap[g]? = W'.heap[g]?)) ∨ (e = .returned (.bool false) ∧ Jx W2)) →
    J 0 I0 W0 →
    CallsIn Fence.wide 0 P f (#[.func (.yield l) #[] #[]] ++ ⟨cv⟩) W0 fun e W' => (∃ v, e = .returned v) ∧ ((∃ I, J xs.length I W') ∨ Jx W')
/-- New blocks came, and one of them is taken over. -/
theorem SR.adopt {W W' : World} {I' : Nat → Prop} {T : TypeId} {sz : Nat} {es : List (List V)} {M : Value} {ys : List Value} (h : SR B n cx s σ a W) (hN : Newer W W') (hI : MoreI cx.I I' W W')
    (hown : W'.ownsRow 0 T sz M es.length ys) (hx : VRs W' { cx with I := I' } es.flatten ys) (hel : ∀ e : List V, e ∈ es → e.length = sz) (hg : ∀ g, M.ownBlock = some g → W.heap.size ≤ g ∧ ¬ I' g ∧ g < W'.heap.size) :
    SR B n (({ cx with I := I' } : Cx).addG M sz) s (σ.setGr cx.nm (some ((T, sz), es))) a W' := by
  have hle : cx.le { cx with I := I' } := ⟨hI.1, Nat.le_refl _, fun _ _ => rfl, fun _ _ => rfl⟩
  have h1 : HR { cx with I := I' } σ W' := h.heap.new hle (fun g hg => hI.2 g hg) hN.size hN.block
  have h2 := h1.addGr hown hx hel (fun g hb => ⟨fun ho => by
    have := h.heap.own_lt (show σ.own cx g from ho)
    have := (hg g hb).1; omega, (hg g hb).2.1⟩)
  refine h.heapstep (hle.trans (Cx.le_addG _ M sz)) rfl (fun g hi => (hI.2 g hi).imp id (fun h => .inr h.1)) (fun g ho => ?_) hN.os hN.tape hN.output hN.size (fun g hlt _ => hN.block g hlt) h2 (fun k x hk => ?_) (fun g x hk => .inl ⟨x, hk⟩)
  · rcases own_addGr h1 ho with h3 | h3
    · exact .inl h3
    · exact .inr (hg g h3).1
  · by_cases e : k = cx.nm
    · exact .inr (by omega)
    · simp only [Hp.setGr, e, if_false] at hk
      exact .inl ⟨x, hk⟩
theorem Free.adopt {l : Nat → Option (List V)} {r : Nat} {o : Obj} {W W' : World} {I' : Nat → Prop} {T : TypeId} {sz : Nat} {es : List (List V)} {M : Value} (h : Free B cx σ l W r o) (_hH : HR cx σ W) (hN : Newer W W') (hI : MoreI cx.I I' W W')
    (hg : ∀ g, M.ownBlock = some g → W.heap.size ≤ g) : Free B (({ cx with I := I' } : Cx).addG M sz) (σ.setGr cx.nm (some ((T, sz), es))) l W' r o :=
  have hlt := lt_of_block h.at'
  ⟨(hN.block r hlt).trans h.at', h.new, fun hf => by
    rcases hf with (⟨c, hc⟩ | ⟨k, x, hk, hb⟩) | ⟨d, c, hd, hL⟩
    · exact h.foot (.inl (.inl ⟨c, hc⟩))
    · by_cases e : k = cx.nm
      · subst e
        have : M.ownBlock = some r := by simpa [Cx.addG] using hb
        have := hg r this; omega
      · simp only [Hp.setGr, e, if_false] at hk
        have hb' : (cx.M k).ownBlock = some r := by simpa [Cx.addG, e] using hb
        exact h.foot (.inl (.inr ⟨k, x, hk, hb'⟩))
    · exact h.foot (.inr ⟨d, c, hd, hL⟩), fun hi => (hI.2 r hi).elim h.imm (fun hs => by omega)⟩
variable {Q : Exit → St → Hp → Prop}
theorem AW.rangeFuncO {g : Operand} {p : Tmp} {assign body : Code} {f : FuncId} {caps : List V} {T : TypeId} {sz : Nat} {xs : List (List (List V))} (hg : ev s g = .fn (.func f) [] caps) (hit : IterO P f caps T sz xs) (himm : ∀ v : V, v ∈ caps → Imm v) (hp : p < n)
    (I : Nat → Hp → Prop) (X : Exit → Hp → Prop) (h0 : I 0 σ)
    (hround : ∀ (r : Nat) (i : Nat) (es : List (List V)) (k : Nat) (σ' : Hp), xs[i]? = some es → I i σ' → σ'.gr k = none →
      AWR P n (some r) assign (fun e s1 σ1 => e = .normal ∧ AWR P n (some r) body (roundS (I (i + 1)) X) s1 σ1) ((plainS s).put p (.agg [.gl k])) (σ'.setGr k (some ((T, sz), es))))
    (hdone : ∀ σ', I xs.length σ' → Q .normal (plainS s) σ') (hret : ∀ σ', X .ret σ' → Q .ret (plainS s) σ') (hexit : ∀ id σ', X (.exit id) σ' → Q (.exit id) (plainS s) σ') :
    AW P n (.rangeFunc g #[p] assign body) Q s σ := fun B cx a w hB hsd h => by
  refine wpIn_wide (n := 0) |>.1 (wpIn_rangeFunc fun fn _ => ?_)
  have hgv := h.tr g
  rw [hg] at hgv
  obtain ⟨xs0, ys, hav, hys⟩ : ∃ xs0 ys : List Value, a.eval g = .func (.func f) ⟨xs0⟩ ⟨ys⟩ ∧ xs0 = [] ∧ VAs w cx caps ys := by
    generalize a.eval g = gv at hgv
    cases hgv with
    | v hgv =>
      cases hgv with
      | @fn _ _ _ xs1 ys1 hn h1 hm h2 => exact ⟨xs1, ys1, rfl, List.eq_nil_of_length_eq_zero hn.symm, hm, h2⟩
  obtain ⟨rfl, hys⟩ := hys
  have hBw : B.w.heap.size ≤ w.heap.size := h.ext.size
  obtain ⟨rec, hrec⟩ : ∃ rec : LoopState → Option Code → Loop, rec = fun st pe => { state := st, pending := pe, fn, tmps := a.tmps, params := #[p], assign, body, defers := w.heap.size } := ⟨_, rfl⟩
  obtain ⟨W1, hW1⟩ : ∃ W1, (w.alloc (.deferred (some []))).alloc (.loop (rec .ready none)) = W1 := ⟨_, rfl⟩
  have hsz1 : W1.heap.size = w.heap.size + 2 := by rw [← hW1]; simp
  have hL1 : W1.heap[w.heap.size + 1]? = some (.loop (rec .ready none)) := by
    rw [← hW1]; have := World.alloc_heap_new (w.alloc (.deferred (some []))) (.loop (rec .ready none)); rwa [World.size_alloc] at this
  have hK1 : W1.heap[w.heap.size]? = some (.deferred (some [])) := by
    rw [← hW1]; exact (Below.heap_alloc _ _ _ (by simp)).trans (World.alloc_heap_new w _)
  have hN1 : Newer w W1 := by
    refine ⟨by rw [← hW1]; rfl, by rw [← hW1]; rfl, by rw [← hW1]; rfl, by omega, fun g hg => ?_⟩
    rw [← hW1]; exact (Below.heap_alloc _ _ _ (by simp; omega)).trans (Below.heap_alloc _ _ _ hg)
  have h1 : SR B n cx s σ a W1 := h.newBlocks hN1 ⟨fun _ h => h, fun _ h => .inl h⟩
  have h1b : SR B n cx (plainS s) σ a W1 := by
    refine ⟨h1.size, h1.defers.mono (fun g hg => foot_none hg) (fun g hg => .inl hg), h1.nd, fun t => keepV_TR (h1.tmp t) (fun _ _ => rfl) (.refl _), h1.heap, ⟨fun d c hd => (by cases hd), fun d c hd => (by cases hd), fun d e c c' hd => (by cases hd)⟩, ?_, h1.gnew, h1.onew, h1.stab, h1.stN, fun d c hd => (by cases hd)⟩
    have he := h1.ext
    exact ⟨he.os, he.tape, he.output, he.size, he.block, he.le, he.inew, fun g hg => he.fnew g (foot_none hg)⟩
  have nof : ∀ r, w.heap.size ≤ r → ¬ foot cx σ (fun _ => none) r := fun r hr hf => by
    have := h.foot_lt (foot_none (l := s.l) hf); omega
  have noI : ∀ r, w.heap.size ≤ r → ¬ cx.I r := fun r hr hi => by have := h.heap.ilt r hi; omega
  have hFL : Free B cx σ (fun _ => none) W1 (w.heap.size + 1) (.loop (rec .ready none)) := ⟨hL1, by omega, nof _ (by omega), noI _ (by omega)⟩
  have hFD : Free B cx σ (fun _ => none) W1 w.heap.size (.deferred (some [])) := ⟨hK1, by omega, nof _ (by omega), noI _ (by omega)⟩
  have hmk : ∀ d ∈ a.defers, d ≠ { target := .collected w.heap.size, args := #[] } := fun d hd e => by
    obtain ⟨D, k1, _, k3, _⟩ := h.defers.2 d hd
    rw [k1] at e
    injection e with e1
    injection e1 with e1
    have := lt_of_block k3
    omega
  refine ⟨w.heap.size + 1, [{ target := .collected w.heap.size, args := #[] }], W1, { target := .fn (.func f) ⟨ys⟩, args := #[.func (.yield (w.heap.size + 1)) #[] #[]] }, W1, f,
    #[.func (.yield (w.heap.size + 1)) #[] #[]] ++ ⟨ys⟩, W1, ?_, ?_, fun _ _ => trivial, ?_, fun e => (by cases e), ?_⟩
  · rw [← hW1, hrec]; exact run_enterLoop_outer _ _ _ _ _
  · simp only [resolve, hav]
    simp [go_sem]
  · simp [invoke, go_sem, hit.1]
  · have hVA : VAs W1 (Cx.im cx.I) caps ys := ⟨hys.1, fun i v x hv hx => ((hys.2 i v x hv hx).keep (fun g hg => hN1.block g (h.heap.ilt g hg)) (.refl _)).toIm (himm v (List.mem_of_getElem? hv))⟩
    refine (hit.2 (w.heap.size + 1) W1 cx.I ys
      (fun i I' W => ∃ cx' σ', cx'.I = I' ∧ SR B n cx' (plainS s) σ' a W ∧ I i σ' ∧ Free B cx' σ' (fun _ => none) W (w.heap.size + 1) (.loop (rec .ready none)) ∧ Free B cx' σ' (fun _ => none) W w.heap.size (.deferred (some [])))
      (fun W => ∃ e c cx' σ', jumpOf e = some c ∧ X e σ' ∧ SR B n cx' (plainS s) σ' a W ∧ Free B cx' σ' (fun _ => none) W (w.heap.size + 1) (.loop (rec .done (some c))) ∧ Free B cx' σ' (fun _ => none) W w.heap.size (.deferred (some [])))
      hVA ?_ ?_ ?_ ?_ ⟨cx, σ, rfl, h1b, h0, hFL, hFD⟩).mono ?_
    · rintro i I' W ⟨cx', σ', rfl, k1, _⟩ g hg
      exact k1.heap.ilt g hg
    · rintro i I' W I'' W' ⟨cx', σ', rfl, k1, k2, k3, k4⟩ hN hM
      exact ⟨{ cx' with I := I'' }, σ', rfl, k1.newBlocks hN hM, k2, k3.newBlocks hN hM, k4.newBlocks hN hM⟩
    · rintro I' W I'' W' ⟨e, c, cx', σ', k0, k2, k1, k3, k4⟩ hN _
      have hM : MoreI cx'.I cx'.I W W' := ⟨fun _ h => h, fun _ h => .inl h⟩
      exact ⟨e, c, cx', σ', k0, k2, k1.newBlocks hN hM, k3.newBlocks hN hM, k4.newBlocks hN hM⟩
    · -- one round
      rintro i I1 W0 I2 W es x ⟨cx0, σ0, rfl, k1, k2, k3, k4⟩ hv hN0 hM0 hel ⟨M, ys0, rfl, hone, hown, hvr, hbl⟩
      have hk0 : σ0.gr cx0.nm = none := k1.heap.no_nm
      have hvr' : VRs W { cx0 with I := I2 } es.flatten ys0 := ⟨hvr.1, hvr.2.1, fun i v x hv hx => (hvr.2.2 i v x hv hx).ofIm (fun _ h => h)⟩
      obtain ⟨cx', hcx'⟩ : ∃ cx', ({ cx0 with I := I2 } : Cx).addG M sz = cx' := ⟨_, rfl⟩
      obtain ⟨σ', hσ'⟩ : ∃ σ', σ0.setGr cx0.nm (some ((T, sz), es)) = σ' := ⟨_, rfl⟩
      have hx' : VR W cx' (.agg [.gl cx0.nm]) (.agg #[M]) := by
        have hMk : cx'.M cx0.nm = M := by rw [← hcx']; simp [Cx.addG]
        have hnm : cx0.nm < cx'.nm := by rw [← hcx']; exact Nat.lt_succ_self _
        refine .agg (xs := [M]) (fun y hy => by rw [List.mem_singleton.1 hy]; exact hone) rfl fun i v y hv hy => ?_
        rcases i with _ | i
        · simp at hv hy; subst hv; subst hy; rw [← hMk]; exact .gl hnm (by rw [hMk]; exact hone)
        · simp at hv
      replace k3 := k3.adopt (T := T) (sz := sz) (es := es) (M := M) k1.heap hN0 hM0 (fun g hg => (hbl g hg).1)
      replace k4 := k4.adopt (T := T) (sz := sz) (es := es) (M := M) k1.heap hN0 hM0 (fun g hg => (hbl g hg).1)
      replace k1 := k1.adopt hN0 hM0 hown hvr' hel hbl
      obtain rfl : cx'.I = I2 := by rw [← hcx']; rfl
      obtain ⟨x, hxe⟩ : ∃ x, (.agg #[M] : Value) = x := ⟨_, rfl⟩
      rw [hcx', hσ'] at k1 k3 k4
      rw [hxe] at hx' ⊢
      have hrd := fun r => hround r i es cx0.nm σ0 hv k2 hk0
      rw [hσ'] at hrd
      obtain ⟨v, hve⟩ : ∃ v : V, .agg [.gl cx0.nm] = v := ⟨_, rfl⟩
      rw [hve] at hx' hrd
      have hy := run_yield (P := P) (args := #[x]) k3.at' (by rw [hrec]; rfl)
      rw [hrec] at hy
      refine ⟨fn, _, assign, body, hy, roundIn_of_wpIn trivial ?_⟩
      have e0 : ((#[p].zip #[x]).foldl (fun tmps (t, a) => tmps.setIfInBounds t a) a.tmps) = a.tmps.setIfInBounds p x := by simp
      rw [e0]
      have r0 : SR B n cx' (plainS s) σ' { tmps := a.tmps, defers := [] } W := ⟨k1.size, Marks.nil, fun _ => rfl, k1.tmp, k1.heap, k1.box, k1.ext, k1.gnew, k1.onew, k1.stab, k1.stN, k1.stS⟩
      have r1 : SR (Base.rnd cx' σ' (plainS s).l W) n cx' ((plainS s).put p v) σ' { tmps := a.tmps.setIfInBounds p x, defers := [] } W := (r0.rebase rfl).put hp (.v hx')
      refine wpIn_mono (hrd (w.heap.size + 1) _ _ _ _ (fun g hs => hs) rfl r1) ?_
      rintro e a1 w1 ⟨cx1, s1, σ1, r2, rfl, hbody⟩
      have f3 : Free B cx1 σ1 s1.l w1 (w.heap.size + 1) (.loop (rec .ready none)) := k3.keep r2.ext
      have f4 : Free B cx1 σ1 s1.l w1 w.heap.size (.deferred (some [])) := k4.keep r2.ext
      have o1 : SR B n cx1 (plainS (plainS s)) σ1 a w1 := k1.outer hB r2
      rw [plainS_plainS] at o1
      have r3 : SR B n cx1 s1 σ1 a1 w1 := r0.compose hB r2
      refine ⟨_, run_beginRound f3.at' (by rw [hrec]), ?_⟩
      have r4 := r3.turnF (o' := .loop { rec .ready none with state := .busy }) hB f3 (fun ds e => by cases e)
      have f5 := f3.set (.loop { rec .ready none with state := .busy })
      have f6 : Free B cx1 σ1 s1.l (w1.putObj (w.heap.size + 1) (.loop { rec .ready none with state := .busy })) w.heap.size (.deferred (some [])) := f4.put (by omega)
      have o2 : SR B n cx1 (plainS s) σ1 a (w1.putObj (w.heap.size + 1) (.loop { rec .ready none with state := .busy })) := o1.turnF hB f3.bare (fun ds e => by cases e)
      have hd1 : a1.defers = [] := r2.nd rfl
      have m1 := k1.defers.keep r2.ext
      have m2 : Marks cx1 (foot cx1 σ1 s1.l) B.w (w1.putObj (w.heap.size + 1) (.loop { rec .ready none with state := .busy })) a.defers := ⟨m1.1, fun d hd => by
        obtain ⟨D, h1, h2, h3, h4, h5⟩ := m1.2 d hd
        exact ⟨D, h1, h2, (World.putObj_heap_other (fun e => by rw [e, f3.at'] at h3; injection h3 with h3; cases h3)).trans h3, h4, h5⟩⟩
      have r5 := r4.rebase hd1
      -- the outer frame beside the round's boxes
      refine wpIn_mono (hbody _ _ _ _ (fun g hs => hs) rfl r5) ?_
      rintro e2 a2 w3 ⟨cx2, s2, σ2, r6, hq⟩
      have g3 := f5.keep r6.ext
      have g4 := f6.keep r6.ext
      have o3 : SR B n cx2 (plainS s) σ2 a w3 := by
        exact o2.outer2 hB r4 m2 r6
      have hImm : ∀ g, cx'.I g → cx2.I g ∧ w3.heap[g]? = W.heap[g]? := fun g hg => by
        have t1 : cx1.I g := r2.ext.le.I g hg
        have b1 : w1.heap[g]? = W.heap[g]? := r2.ext.block g (k1.heap.ilt g hg) (k1.foot_apart hg)
        have ne : g ≠ w.heap.size + 1 := fun e => k3.imm (by rw [← e]; exact hg)
        have b2 := (World.putObj_heap_other (w := w1) (o := .loop { rec .ready none with state := .busy }) ne).trans b1
        exact ⟨r6.ext.le.I g t1, (r6.ext.block g (r4.heap.ilt g t1) (r4.foot_apart t1)).trans b2⟩
      have fin : ∀ jump : Option Code, (Instr.endRound (w.heap.size + 1) jump).run P w3 = .ok (.bool jump.isNone) (w3.putObj (w.heap.size + 1) (.loop (rec (if jump.isNone then .ready else .done) jump))) := fun jump => by
        have := run_endRound (P := P) jump g3.at'
        rw [hrec] at this ⊢
        exact this
      have done : ∀ st pe, SR B n cx2 (plainS s) σ2 a (w3.putObj (w.heap.size + 1) (.loop (rec st pe))) ∧ Free B cx2 σ2 (fun _ => none) (w3.putObj (w.heap.size + 1) (.loop (rec st pe))) (w.heap.size + 1) (.loop (rec st pe)) ∧ Free B cx2 σ2 (fun _ => none) (w3.putObj (w.heap.size + 1) (.loop (rec st pe))) w.heap.size (.deferred (some [])) := fun st pe =>
        ⟨o3.turnF hB g3.bare (fun ds e => by cases e), g3.bare.set _, g4.bare.put (by omega)⟩
      cases e2 with
      | normal =>
        obtain ⟨d1, d2, d3⟩ := done .ready none
        refine ⟨_, _, fin none, .inl ⟨rfl, cx2.I, ⟨cx2, σ2, rfl, d1, hq, d2, d3⟩, fun g hg => ⟨(hImm g hg).1, ?_⟩⟩⟩
        exact (World.putObj_heap_other (fun e => k3.imm (by rw [← e]; exact hg))).trans (hImm g hg).2
      | ret =>
        obtain ⟨d1, d2, d3⟩ := done .done (some .ret)
        exact ⟨_, _, fin (some .ret), .inr ⟨rfl, .ret, .ret, cx2, σ2, rfl, hq, d1, d2, d3⟩⟩
      | exit id =>
        obtain ⟨d1, d2, d3⟩ := done .done (some (.exit id))
        exact ⟨_, _, fin (some (.exit id)), .inr ⟨rfl, .exit id, .exit id, cx2, σ2, rfl, hq, d1, d2, d3⟩⟩
      | goto t => exact hq.elim
      | panic c => exact hq.elim
      | outgrown => exact hq.elim
    · -- behind the iterator
      have last : ∀ {cx' : Cx} {σ' : Hp} {W : World} {st : LoopState} {pe : Option Code}, st ≠ .busy → SR B n cx' (plainS s) σ' a W → Free B cx' σ' (fun _ => none) W (w.heap.size + 1) (.loop (rec st pe)) → Free B cx' σ' (fun _ => none) W w.heap.size (.deferred (some [])) →
          ∃ W', (Instr.endLoop (w.heap.size + 1)).run P W = .ok pe W' ∧ SR B n cx' (plainS s) σ' { a with defers := { target := .collected w.heap.size, args := #[] } :: a.defers } W' := fun {cx' σ' W st pe} hst k1 k3 k4 => by
        have := run_endLoop (P := P) k3.at' (by rw [hrec]; exact hst)
        refine ⟨_, by rw [hrec] at this; exact this, ?_⟩
        exact (k1.turnF hB k3 (fun ds e => by cases e)).pushMark hB (k4.put (by omega)) hmk
      rintro e W2 ⟨⟨v, rfl⟩, (⟨I', cx', σ', _, k1, k2, k3, k4⟩ | ⟨e, c, cx', σ', k0, k2, k1, k3, k4⟩)⟩
      · obtain ⟨W', m1, m2⟩ := last (by decide) k1 k3 k4
        exact ⟨none, W', m1, ⟨cx', _, σ', m2, hdone σ' k2⟩⟩
      · obtain ⟨W', m1, m2⟩ := last (by decide) k1 k3 k4
        refine ⟨some c, W', m1, ?_⟩
        cases e with
        | ret => injection k0 with k0; subst k0; exact wpIn_ret ⟨cx', _, σ', m2, hret σ' k2⟩
        | exit id => injection k0 with k0; subst k0; exact wpIn_exit ⟨cx', _, σ', m2, hexit id σ' k2⟩
        | _ => cases k0
end
end Go.Abs
namespace Go.Abs
open Go
section
variable {P : Program} {B : Base} {n : Nat} {cx : Cx} {s : St} {σ : Hp} {a : Act} {w : World} {Q : Exit → St → Hp → Prop}
/-- Pointers to an object that nobody writes any more. -/
def ipV (g : Nat) (cells : List V) : V → V
  | .c (.pointer (some ⟨b, o, none⟩)) => if b = g then .ip [cells] 0 o else .c (.pointer (some ⟨b, o, none⟩))
  | v => v
def St.ip (s : St) (g : Nat) (cells : List V) : St := ⟨fun t => ipV g cells (s.t t), s.l⟩
@[simp] theorem St.ip_t (s : St) (g : Nat) (cells : List V) (t : Nat) : (s.ip g cells).t t = ipV g cells (s.t t) := rfl
@[simp] theorem St.ip_l (s : St) (g : Nat) (cells : List V) (d : Nat) : (s.ip g cells).l d = s.l d := rfl
theorem VR.ip_off {es : List (List V)} {g o off : Nat} (h : VR w cx (.ip es 0 o) (.pointer (some ⟨g, o, none⟩))) : VR w cx (.ip es 0 off) (.pointer (some ⟨g, off, none⟩)) := by
  generalize hx : (.pointer (some ⟨g, o, none⟩) : Value) = x at h
  cases h with
  | @ip _ sz b o' _ _ f hI hi hlen hc hr h1 =>
    injection hx with hx; injection hx with hx; injection hx with hb ho
    subst hb
    have ho' : o' = 0 := by omega
    subst ho'
    have := VR.ip (w := w) (cx := cx) (es := es) (sz := sz) (b := g) (o := 0) (i := 0) (off := off) f hI hi hlen hc hr h1
    simpa using this
theorem SR.hush (h : SR B n cx s σ a w) {g : Nat} {cells : List V} (hg : σ.obj g = some cells) (hm : isMap cells = false) (hc : cells ≠ []) : SR B n (cx.addI g) (s.ip g cells) (σ.setObj g none) a w := by
  obtain ⟨hH, hip⟩ := h.heap.hush hg hm hc
  have hle := cx.le_addI g
  have hown : ∀ g', (σ.setObj g none).own (cx.addI g) g' → σ.own cx g' := fun g' hg' => by
    rcases hg' with ⟨c, hc⟩ | ⟨j, x, hj, hb⟩
    · exact .inl ⟨c, (delObj_sub σ g).1 _ _ hc⟩
    · exact .inr ⟨j, x, hj, hb⟩
  have hfoot : ∀ g', foot (cx.addI g) (σ.setObj g none) s.l g' → foot cx σ s.l g' := fun g' hf => by
    rcases hf with hf | ⟨d, c, hd, e⟩
    · exact .inl (hown g' hf)
    · exact .inr ⟨d, c, hd, e⟩
  have hgo : σ.own cx g := .inl ⟨cells, hg⟩
  refine ⟨h.size, h.defers.mono hfoot (fun g' hi => ?_), h.nd, fun t => ?_, hH, ?_, ?_, fun k x hk => h.gnew k x hk, fun g' x hx => h.onew g' x ((delObj_sub σ g).1 _ _ hx), h.stab, fun g' hs => ⟨(h.stN g' hs).1, fun ho => (h.stN g' hs).2 (hown g' ho)⟩, h.stS⟩
  · rcases (show cx.I g' ∨ g' = g from hi) with hi | rfl
    · exact .inl hi
    · exact .inr (.inl hgo)
  · have ht := h.tmp t
    show TR w (cx.addI g) (ipV g cells (s.t t)) (a.tmps.getD t undef)
    generalize s.t t = v at ht
    generalize a.tmps.getD t undef = x at ht
    have keep : TR w (cx.addI g) v x := by
      cases ht with
      | v hv => exact .v (hv.keep (fun _ _ => rfl) hle)
      | lp d off => exact .lp (cx := cx.addI g) d off
      | junk => exact .junk _
    unfold ipV
    split
    · rename_i b o
      split
      · rename_i e
        subst e
        cases ht with
        | v hv => cases hv; exact .v hip.ip_off
      · exact keep
    · exact keep
  · refine ⟨fun d c hd => ?_, fun d c hd => ⟨fun hi => ?_, fun ho => (h.box.apart d c hd).2 (hown _ ho)⟩, h.box.inj⟩
    · obtain ⟨T, cs, h1, h2⟩ := h.box.box d c hd
      exact ⟨T, cs, h1, h2.keep (fun _ _ => rfl) hle⟩
    · rcases (show cx.I (cx.L d) ∨ cx.L d = g from hi) with hi | hi
      · exact (h.box.apart d c hd).1 hi
      · exact (h.box.apart d c hd).2 (hi ▸ hgo)
  · have he := h.ext
    refine ⟨he.os, he.tape, he.output, he.size, he.block, he.le.trans hle, fun g' hi => ?_, fun g' hf => he.fnew g' (hfoot g' hf)⟩
    rcases (show cx.I g' ∨ g' = g from hi) with hi | rfl
    · exact he.inew g' hi
    · rcases he.fnew g' (.inl hgo) with h1 | h1
      · exact .inr (.inl h1)
      · exact .inr (.inr h1)
theorem AW.hush {c : Code} {g : Nat} {cells : List V} (hg : σ.obj g = some cells) (hm : isMap cells = false) (hc : cells ≠ []) (h : AW P n c Q (s.ip g cells) (σ.setObj g none)) : AW P n c Q s σ :=
  fun B cx a w h1 h2 h3 => h B (cx.addI g) a w h1 h2 (h3.hush hg hm hc)
/-- Pointers to a box that nobody writes any more. -/
def bxV (d : Nat) (cells : List V) : V → V
  | .lp e o => if e = d then .ip [cells] 0 o else .lp e o
  | v => v
def St.bx (s : St) (d : Nat) (cells : List V) : St := ⟨fun t => bxV d cells (s.t t), fun e => if e = d then none else s.l e⟩
@[simp] theorem St.bx_t (s : St) (d : Nat) (cells : List V) (t : Nat) : (s.bx d cells).t t = bxV d cells (s.t t) := rfl
@[simp] theorem St.bx_l (s : St) (d : Nat) (cells : List V) (e : Nat) : (s.bx d cells).l e = if e = d then none else s.l e := rfl
theorem SR.hushBox (h : SR B n cx s σ a w) {d : Nat} {cells : List V} (hd : s.l d = some cells) (_hc : cells ≠ []) : SR B n (cx.addI (cx.L d)) (s.bx d cells) σ a w := by
  obtain ⟨T, cs, hb, hvs⟩ := h.box.box d cells hd
  obtain ⟨hai, hao⟩ := h.box.apart d cells hd
  have hle := cx.le_addI (cx.L d)
  have hH : HR (cx.addI (cx.L d)) σ w := h.heap.keep hle (fun _ => False) (fun _ h => h.elim) (fun _ h => h.elim) (fun g' (hg' : cx.I g' ∨ g' = cx.L d) ho => by
      rcases hg' with h1 | h1
      · exact h.heap.apart g' ho h1
      · exact hao (h1 ▸ ho)) (fun g' (hg' : cx.I g' ∨ g' = cx.L d) => by
      rcases hg' with h1 | h1
      · exact h.heap.ilt g' h1
      · rw [h1]; exact lt_of_block hb) (fun _ _ _ => rfl)
  have hip : VR w (cx.addI (cx.L d)) (.ip [cells] 0 0) (.pointer (some ⟨cx.L d, 0, none⟩)) := by
    have hvk := hvs.keep (w' := w) (cx' := cx.addI (cx.L d)) (fun _ _ => rfl) hle
    have := VR.ip (w := w) (cx := cx.addI (cx.L d)) (es := [cells]) (sz := cells.length) (b := cx.L d) (o := 0) (i := 0) (off := 0) (fun i j => cs.getD j undef) (.inr rfl) (by simp)
      (fun i e he => by
        rcases i with _ | i
        · simp at he; rw [← he]
        · simp at he)
      (fun i j hi hj => by
        have h0 : i = 0 := by simp at hi; exact hi
        subst h0
        have hjl : j < cs.length := by rw [← hvs.1]; exact hj
        simp [World.cell?, hb, List.getD, hjl])
      (fun i e j v he hv => by
        rcases i with _ | i
        · simp at he; subst he
          have hjl : j < cs.length := by rw [← hvs.1]; exact (List.getElem?_eq_some_iff.1 hv).1
          exact hvk.2.2 j v _ hv (by simp [List.getD, hjl])
        · simp at he)
      (fun i j hi hj => by
        have hjl : j < cs.length := by rw [← hvs.1]; exact hj
        exact hvs.2.1 _ (by simp only [List.getD, List.getElem?_eq_getElem hjl]; exact List.getElem_mem _))
    simpa using this
  have hl : ∀ e c, (s.bx d cells).l e = some c → e ≠ d ∧ s.l e = some c := fun e c he => by
    rw [St.bx_l] at he
    split at he
    · cases he
    · exact ⟨‹_›, he⟩
  have hfoot : ∀ g', foot (cx.addI (cx.L d)) σ (s.bx d cells).l g' → foot cx σ s.l g' := fun g' hf => by
    rcases hf with hf | ⟨e, c, he, e'⟩
    · exact .inl hf
    · exact .inr ⟨e, c, (hl e c he).2, e'⟩
  have hgo : foot cx σ s.l (cx.L d) := .inr ⟨d, cells, hd, rfl⟩
  refine ⟨h.size, h.defers.mono hfoot (fun g' hi => ?_), h.nd, fun t => ?_, hH, ?_, ?_, h.gnew, h.onew, h.stab, h.stN, fun e c he hs => h.stS e c (hl e c he).2 hs⟩
  · rcases (show cx.I g' ∨ g' = cx.L d from hi) with hi | rfl
    · exact .inl hi
    · exact .inr hgo
  · have ht := h.tmp t
    show TR w (cx.addI (cx.L d)) (bxV d cells (s.t t)) (a.tmps.getD t undef)
    generalize s.t t = v at ht
    generalize a.tmps.getD t undef = x at ht
    have keep : TR w (cx.addI (cx.L d)) v x := by
      cases ht with
      | v hv => exact .v (hv.keep (fun _ _ => rfl) hle)
      | lp e off => exact .lp (cx := cx.addI (cx.L d)) e off
      | junk => exact .junk _
    unfold bxV
    split
    · rename_i e o
      split
      · rename_i e'
        subst e'
        cases ht with
        | v hv => cases hv
        | lp => exact .v hip.ip_off
      · exact keep
    · exact keep
  · refine ⟨fun e c he => ?_, fun e c he => ⟨fun hi => ?_, fun ho => (h.box.apart e c (hl e c he).2).2 ho⟩, fun e e' c c' he he' => h.box.inj e e' c c' (hl e c he).2 (hl e' c' he').2⟩
    · obtain ⟨T, cs, h1, h2⟩ := h.box.box e c (hl e c he).2
      exact ⟨T, cs, h1, h2.keep (fun _ _ => rfl) hle⟩
    · rcases (show cx.I (cx.L e) ∨ cx.L e = cx.L d from hi) with hi | hi
      · exact (h.box.apart e c (hl e c he).2).1 hi
      · exact (hl e c he).1 (h.box.inj e d c cells (hl e c he).2 hd hi)
  · have he := h.ext
    refine ⟨he.os, he.tape, he.output, he.size, he.block, he.le.trans hle, fun g' hi => ?_, fun g' hf => he.fnew g' (hfoot g' hf)⟩
    rcases (show cx.I g' ∨ g' = cx.L d from hi) with hi | rfl
    · exact he.inew g' hi
    · rcases he.fnew _ hgo with h1 | h1
      · exact .inr (.inl h1)
      · exact .inr (.inr h1)
theorem AW.hushBox {c : Code} {d : Nat} {cells : List V} (hd : s.l d = some cells) (hc : cells ≠ []) (h : AW P n c Q (s.bx d cells) σ) : AW P n c Q s σ :=
  fun B cx a w h1 h2 h3 => h B (cx.addI (cx.L d)) a w h1 h2 (h3.hushBox hd hc)
end
end Go.Abs
namespace Go.Abs
open Go
section
variable {P : Program} {F : Fence} {m n : Nat} {r : Option Nat} {s : St} {σ : Hp} {Q : Exit → St → Hp → Prop}
/-- A loop inside a fence, with a number that goes down in each round. -/
theorem wpIn_loop_rel {c : Code} {a : Act} {w : World} {Q : Exit → Act → World → Prop} (I : Nat → Act → World → Prop) (h₀ : ∃ m, I m a w)
    (round : ∀ m a w, I m a w → c.wpIn F n P (Exit.then (fun a' w' => ∃ m', m' < m ∧ I m' a' w') Q) a w) : (Code.loop c).wpIn F n P Q a w := by
  intro b k cs hro hb hr
  have key : ∀ m a w, I m a w → ∃ e a' w', Q e a' w' ∧ ArrivesIn (Machine.fenced P F) P (lone (b.atR a (.code c :: .inLoop c :: k)) cs w) b k cs e a' w' := by
    intro m
    induction m using Nat.strongRecOn with
    | _ m ih =>
      intro a w hI
      obtain ⟨e, a₁, w₁, hq, harr⟩ := round m a w hI b (.inLoop c :: k) cs hro hb hr
      cases e with
      | normal =>
        obtain ⟨m', hlt, hI₁⟩ := hq
        obtain ⟨e₂, a₂, w₂, hq₂, harr₂⟩ := ih m' hlt a₁ w₁ hI₁
        exact ⟨e₂, a₂, w₂, hq₂, .of_steps (StepsIn.trans harr (.one (fenced_calm hb hr rfl) stepR_inLoop)) harr₂⟩
      | exit id => exact ⟨_, a₁, w₁, hq, .pass (x := .inLoop c) rfl (fun _ _ => .inl (by simp)) harr⟩
      | goto l => exact ⟨_, a₁, w₁, hq, .pass (x := .inLoop c) rfl (fun _ _ => .inl (by simp)) harr⟩
      | ret => exact ⟨_, a₁, w₁, hq, .pass (x := .inLoop c) rfl (fun _ _ => .inl (by simp)) harr⟩
      | panic ch => exact ⟨_, a₁, w₁, hq, .pass (x := .inLoop c) rfl (fun _ _ => .inl (by simp)) harr⟩
      | outgrown => exact ⟨_, a₁, w₁, hq, .pass (x := .inLoop c) rfl (fun _ _ => .inl (by simp)) harr⟩
  obtain ⟨m, hm⟩ := h₀
  obtain ⟨e, a', w', hq, harr⟩ := key m a w hm
  exact ⟨e, a', w', hq, .of_steps (.one (fenced_calm hb hr rfl) stepR_loop) harr⟩
theorem AWR.loop {c : Code} (I : Nat → St → Hp → Prop) (m : Nat) (h0 : I m s σ) (hr : ∀ m s σ, I m s σ → AWR P n r c (thenS (fun s' σ' => ∃ m', m' < m ∧ I m' s' σ') Q) s σ) : AWR P n r (.loop c) Q s σ :=
  fun B cx a w h1 h2 h3 => wpIn_loop_rel (fun m a w => ∃ cx s σ, SR B n cx s σ a w ∧ I m s σ) ⟨m, cx, s, σ, h3, h0⟩ fun m a w ⟨cx, s, σ, h4, h5⟩ =>
    wpIn_mono (hr m s σ h5 B cx a w h1 h2 h4) fun e a' w' ⟨cx', s', σ', h6, h7⟩ => by
      cases e with
      | normal => obtain ⟨m', hm, hI⟩ := h7; exact ⟨m', hm, cx', s', σ', h6, hI⟩
      | _ => exact ⟨cx', s', σ', h6, h7⟩
theorem AWR.seq_j {x y : Code} (J : St → Hp → Prop) (h : AWR P n r x (thenS J Q) s σ) (hy : ∀ s σ, J s σ → AWR P n r y Q s σ) : AWR P n r (.seq x y) Q s σ :=
  .seq (h.mono fun e s σ hq => by
    cases e with
    | normal => exact hy s σ hq
    | _ => exact hq)
end
end Go.Abs
namespace Go.Abs
open Go
section
variable {P : Program}
/-- A call whose result is read only, from then on. -/
theorem ACalls.freezeAll {f : FuncId} {args : List V} {R : V → Hp → Prop} {R' : V → Prop} (n : Nat) (h : ACalls P f args Hp.empty R) (hr : ∀ v σ', R v σ' → R' (wk (thaw σ' n v))) : PCalls P f args R' :=
  ⟨h.1, fun cx w xs hH ha => (h.2 cx w xs hH ha).mono fun e w' ⟨v, r, cx', σ', h1, h2, h3, h4⟩ => by
    refine ⟨wk (thaw σ' n v), r, cx'.lent σ', Hp.empty, h1, wk_VR (thaw_VR h3.heap n v r h2), ⟨h3.heap.lent, ⟨h3.ext.os, h3.ext.tape, h3.ext.output, h3.ext.size, h3.ext.block, h3.ext.le.trans Cx.le_lent, fun g hg => ?_, fun g hg => (own_empty hg).elim⟩, fun k x hk => (by cases hk), fun g x hx => (by cases hx)⟩, rfl, hr v σ' h4⟩
    rcases hg with hg | hg
    · exact h3.ext.inew g hg
    · exact (h3.ext.fnew g hg).imp (fun h => (own_empty h).elim) .inr⟩
/-- Where each round may write its element, each may leave it alone. -/
theorem IterO.toIter {f : FuncId} {caps : List V} {T : TypeId} {sz : Nat} {xs : List (List (List V))} (h : IterO P f caps T sz xs) : Iter P f caps (xs.map fun es => .agg [.sl es]) := by
  refine ⟨h.1, fun l W0 I0 cv J Jx hva hlt hJ hJx hrd h0 => ?_⟩
  have := h.2 l W0 I0 cv J Jx hva hlt hJ hJx ?_ h0
  · simpa using this
  intro i I W I' W' es x hj hx hN hM hel ⟨M, ys, hxe, hone, hown, hvr, hbl⟩
  subst hxe
  have hI'lt : ∀ g, I' g → g < W'.heap.size := fun g hg => by
    rcases hM.2 g hg with h1 | h1
    · exact Nat.lt_of_lt_of_le (hlt i I W hj g h1) hN.size
    · exact h1.2
  have hmI : MoreI I (fun g => I' g ∨ M.ownBlock = some g) W W' := ⟨fun g hg => .inl (hM.1 g hg), fun g hg => by
    rcases hg with hg | hg
    · exact hM.2 g hg
    · exact .inr ⟨(hbl g hg).1, (hbl g hg).2.2⟩⟩
  have hj' := hJ i I W (fun g => I' g ∨ M.ownBlock = some g) W' hj hN hmI
  have hvr' : VRs W' (Cx.im fun g => I' g ∨ M.ownBlock = some g) es.flatten ys := hvr.keep (fun _ _ => rfl) ⟨fun g hg => .inl hg, Nat.le_refl _, fun _ _ => rfl, fun _ _ => rfl⟩
  have hv : VR W' (Cx.im fun g => I' g ∨ M.ownBlock = some g) (.agg [.sl es]) (.agg #[M]) := by
    refine .agg (xs := [M]) (fun y hy => by rw [List.mem_singleton.1 hy]; exact hone) rfl fun i v y hv hy => ?_
    rcases i with _ | i
    · simp at hv hy; subst hv; subst hy
      rcases hown.2 with ⟨hM0, h0⟩ | ⟨g, cap, cur, hM0, _, hblk, hcap, _, hcs, htk⟩
      · have : es = [] := List.eq_nil_of_length_eq_zero h0
        subst this; rw [hM0]; exact .nils
      · have hg : M.ownBlock = some g := by rw [hM0]; rfl
        have := VR.sl_of_row (w := W') (cx := Cx.im fun g => I' g ∨ M.ownBlock = some g) (es := es) (sz := sz) (b := g) (o := 0) (cap := cap) (.inr hg) hcap hel hvr' (fun j x hj => by
          rw [cell_of_row W' g (0 + j) cur _ _ hblk, Nat.zero_add]
          have hj' : ys[j]? = (cur.toList.take (es.length * sz))[j]? := by rw [htk]
          rw [hj'] at hj
          rw [List.getElem?_take] at hj
          split at hj
          · simpa using hj
          · cases hj)
        rw [hM0] at this ⊢; exact this
    · simp at hv
  refine YieldAt.mono (hrd i _ W' (.agg [.sl es]) _ hj' (by simp [hx]) hv) fun e W2 hq => ?_
  rcases hq with ⟨rfl, I2, h1, h2⟩ | h1
  · exact .inl ⟨rfl, I2, h1, fun g hg => h2 g (.inl hg)⟩
  · exact .inr h1
end
end Go.Abs
namespace Go.Abs.M
open Go Go.Abs Go.Proofs
set_option maxRecDepth 20000
set_option linter.unusedSimpArgs false
set_option linter.unusedVariables false
theorem len_attr (l : List Attr) : ∀ (e : List V), e ∈ l.map encAttr → e.length = 4 := fun e he => by
  obtain ⟨a, _, rfl⟩ := List.mem_map.1 he; rfl
theorem len_bd (l : List Bd) : ∀ (e : List V), e ∈ l.map encBd → e.length = 6 := fun e he => by
  obtain ⟨a, _, rfl⟩ := List.mem_map.1 he; rfl
theorem clone_attrs (l : List Attr) (hl : l.length * 48 ≤ 140737488355328) : PCalls Tryz.prog 51 [.sl (l.map encAttr)] (fun r => r = .sl (l.map encAttr)) := by
 refine PCalls.intro Tryz.call51 Tryz.func51 rfl Tryz.ntmps51 Tryz.results51 (by simp) ?_
 refine AW.seq_k fun K1 h1 => ?_
 all_goals refine AW.reg0 ?_
 all_goals (refine S.g rfl rfl fun Y Z => ?_; simp only [zz, reduceIte, Nat.reduceEqDiff, Nat.reduceAdd]; refine Z _ _ ?_; clear Z Y)
 all_goals refine S.nil ?_
 all_goals simp only [ze, reduceIte, Nat.reduceEqDiff, Nat.reduceLeDiff, Nat.reduceAdd]
 all_goals apply_assumption
 refine AW.seq_j (fun s' σ' => σ' = Hp.empty ∧ s'.t 0 = .sl (l.map encAttr)) ?_ ?_
 ·refine AW.seq_j (fun s' σ' => σ' = Hp.empty ∧ s'.t 0 = .sl (l.map encAttr) ∧ ∃ b, s'.t 4 = .c (.bool b) ∧ (b = true → l = [])) ?_ ?_
  ·skip
   all_goals refine AW.reg0 ?_
   all_goals (refine S.g rfl rfl fun Y Z => ?_; simp only [zz, reduceIte, Nat.reduceEqDiff, Nat.reduceAdd]; refine Z _ _ ?_; clear Z Y)
   all_goals (refine S.g rfl rfl fun Y Z => ?_; simp only [zz, reduceIte, Nat.reduceEqDiff, Nat.reduceLeDiff, Nat.reduceAdd, sl34]; refine ⟨fun hne => ?_, fun hz b => ?_⟩ <;> (refine Z _ _ ?_; clear Z Y))
   all_goals refine S.nil ?_
   all_goals simp only [ze, reduceIte, Nat.reduceEqDiff, Nat.reduceLeDiff, Nat.reduceAdd]
   ·exact ⟨_, rfl, fun h => by cases h⟩
   ·exact ⟨_, rfl, fun _ => hz⟩
  rintro s σ ⟨rfl, e0, b, e4, hb⟩
  refine AW.cond (b := b) e4 (fun hc => ?_) (fun hc => AW.skip ?_)
  ·refine AW.seq_k fun K2 h2 => ?_
   all_goals refine AW.reg0 ?_
   all_goals (refine S.g rfl rfl fun Y Z => ?_; simp only [zz, reduceIte, Nat.reduceEqDiff, Nat.reduceAdd]; refine Z _ _ ?_; clear Z Y)
   all_goals refine S.nil ?_
   all_goals simp only [ze, reduceIte, Nat.reduceEqDiff, Nat.reduceLeDiff, Nat.reduceAdd]
   all_goals apply_assumption
   refine AW.ret ?_
   all_goals simp only [zs, reduceIte, Nat.reduceEqDiff, Nat.reduceLeDiff, Nat.reduceAdd]
   rw [hb hc]; rfl
  ·all_goals simp only [zs, reduceIte, Nat.reduceEqDiff, Nat.reduceLeDiff, Nat.reduceAdd]
   exact e0
 rintro s σ ⟨rfl, e0⟩
 refine AW.seq_k fun K3 h3 => ?_
 all_goals refine AW.region (T := { own := fun d => d == 5 }) (fun _ _ h => by cases h) rfl ?_
 all_goals (refine S.g rfl rfl fun Y Z => ?_; simp only [zb, reduceIte, Nat.reduceEqDiff, Nat.reduceLeDiff, Nat.reduceAdd, sl34, el34, ok42, sz42, ag42, zt42, by42, e0]; intro k1 hk1 <;> (refine Z _ _ ?_; clear Z Y))
 all_goals (refine S.g rfl rfl fun Y Z => ?_; simp only [zz, reduceIte, Nat.reduceEqDiff, Nat.reduceAdd, e0]; refine Z _ _ ?_; clear Z Y)
 all_goals (refine S.g rfl rfl fun Y Z => ?_; simp only [zz, reduceIte, Nat.reduceEqDiff, Nat.reduceLeDiff, Nat.reduceAdd, sl34, el34, ok42, sz42, ag42, zt42, by42, e0]; refine ⟨len_attr l, by unfold maxLen; omega, by unfold reach; omega, fun k2 hk2 => ?_⟩ <;> (refine Z _ _ ?_; clear Z Y))
 all_goals (refine S.g rfl rfl fun Y Z => ?_; simp only [zz, reduceIte, Nat.reduceEqDiff, Nat.reduceAdd, e0]; refine Z _ _ ?_; clear Z Y)
 all_goals refine S.nil ?_
 all_goals simp only [ze, reduceIte, Nat.reduceEqDiff, Nat.reduceLeDiff, Nat.reduceAdd, e0]
 all_goals apply_assumption
 refine AW.freeze (k := k2) (T := (42, 4)) (es := l.map encAttr) (by simp only [Hp.setGr_gr, if_true]) (AW.bare (AW.ret ?_))
 all_goals simp only [zs, reduceIte, Nat.reduceEqDiff, Nat.reduceLeDiff, Nat.reduceAdd, fzV, fz1, St.fz_t, St.fz_l]
theorem clone_ev (e : Ev) (hl : e.attrs.length * 48 ≤ 140737488355328) : PCalls Tryz.prog 29 [.agg (encEv e)] (fun r => r = .agg (encEv e)) := by
 refine PCalls.intro Tryz.call29 Tryz.func29 rfl Tryz.ntmps29 Tryz.results29 (by simp) ?_
 refine AW.seq_k fun K1 h1 => ?_
 refine AW.reg0 ?_
 iterate 2 (refine S.g rfl rfl fun Y Z => ?_; simp only [zz, reduceIte, Nat.reduceEqDiff, Nat.reduceLT, Nat.reduceLeDiff, Nat.reduceAdd, reduceCtorEq, Nat.reduceMul, ok36, sz36, ag36, zt36, encEv]; refine Z _ _ ?_; clear Z Y)
 refine S.nil ?_
 simp only [ze, reduceIte, Nat.reduceEqDiff, Nat.reduceLT, Nat.reduceLeDiff, Nat.reduceAdd, reduceCtorEq, Nat.reduceMul, encEv]
 apply_assumption
 refine AW.seq_k fun K2 h2 => ?_
 refine AW.reg0 ?_
 iterate 2 (refine S.g rfl rfl fun Y Z => ?_; simp only [zz, reduceIte, Nat.reduceEqDiff, Nat.reduceLT, Nat.reduceLeDiff, Nat.reduceAdd, reduceCtorEq, Nat.reduceMul, of36_3, ok34, sz34, ag34]; refine Z _ _ ?_; clear Z Y)
 (refine S.g rfl rfl fun Y Z => ?_; simp only [zz, reduceIte, Nat.reduceEqDiff, Nat.reduceLT, Nat.reduceLeDiff, Nat.reduceAdd, reduceCtorEq, Nat.reduceMul]; refine PCalls.eqto (clone_attrs _ (by assumption)) ?_ <;> (refine Z _ _ ?_; clear Z Y))
 iterate 2 (refine S.g rfl rfl fun Y Z => ?_; simp only [zz, reduceIte, Nat.reduceEqDiff, Nat.reduceLT, Nat.reduceLeDiff, Nat.reduceAdd, reduceCtorEq, Nat.reduceMul, of36_3, ok34, sz34, ag34]; refine Z _ _ ?_; clear Z Y)
 refine S.nil ?_
 simp only [ze, reduceIte, Nat.reduceEqDiff, Nat.reduceLT, Nat.reduceLeDiff, Nat.reduceAdd, reduceCtorEq, Nat.reduceMul]
 apply_assumption
 refine AW.seq_k fun K3 h3 => ?_
 refine AW.reg0 ?_
 iterate 2 (refine S.g rfl rfl fun Y Z => ?_; simp only [zz, reduceIte, Nat.reduceEqDiff, Nat.reduceLT, Nat.reduceLeDiff, Nat.reduceAdd, reduceCtorEq, Nat.reduceMul, ok36, sz36, ag36]; refine Z _ _ ?_; clear Z Y)
 refine S.nil ?_
 simp only [ze, reduceIte, Nat.reduceEqDiff, Nat.reduceLT, Nat.reduceLeDiff, Nat.reduceAdd, reduceCtorEq, Nat.reduceMul]
 apply_assumption
 refine AW.ret ?_
 simp only [zs, reduceIte, Nat.reduceEqDiff, Nat.reduceLT, Nat.reduceLeDiff, Nat.reduceAdd, reduceCtorEq, Nat.reduceMul, qLoad, ok36, sz36, ag36, cut, List.drop_zero, List.take_succ_cons, List.take_zero]
 simp only [List.map, wk1, encEv]
def hpB (k : Nat) (l : List Bd) : Hp := Hp.empty.setGr k (some ((38, 6), l.map encBd))
theorem clone_grow (l : List Bd) (hl : ∀ b ∈ l, b.ev.attrs.length * 48 ≤ 140737488355328) (hn : l.length * 80 ≤ 140737488355328) : ACalls Tryz.prog 8 [.agg [.sl (l.map encBd)]] Hp.empty (fun v σ' => (l = [] ∧ v = .agg [.c (.slice none 0 0)] ∧ σ' = Hp.empty) ∨ ∃ k, l ≠ [] ∧ v = .agg [.gl k] ∧ σ' = hpB k l) := by
 refine ACalls.introR Tryz.call8 Tryz.func8 rfl Tryz.ntmps8 Tryz.results8 (by simp) ?_
 refine AW.seq_k fun K1 h1 => ?_
 refine AW.reg0 ?_
 iterate 2 (refine S.g rfl rfl fun Y Z => ?_; simp only [zz, reduceIte, Nat.reduceEqDiff, Nat.reduceLT, Nat.reduceLeDiff, Nat.reduceAdd, reduceCtorEq, Nat.reduceMul, ok24, sz24, ag24, zt24]; refine Z _ _ ?_; clear Z Y)
 refine S.nil ?_
 simp only [ze, reduceIte, Nat.reduceEqDiff, Nat.reduceLT, Nat.reduceLeDiff, Nat.reduceAdd, reduceCtorEq, Nat.reduceMul]
 apply_assumption
 refine AW.seq_k fun K2 h2 => ?_
 refine AW.reg0 ?_
 (refine S.g rfl rfl fun Y Z => ?_; simp only [zz, reduceIte, Nat.reduceEqDiff, Nat.reduceAdd]; refine Z _ _ ?_; clear Z Y)
 refine S.nil ?_
 simp only [ze, reduceIte, Nat.reduceEqDiff, Nat.reduceLT, Nat.reduceLeDiff, Nat.reduceAdd, reduceCtorEq, Nat.reduceMul]
 apply_assumption
 refine AW.seq_k fun K3 h3 => ?_
 refine AW.seq_k fun K4 h4 => ?_
 refine AW.reg0 ?_
 iterate 4 (refine S.g rfl rfl fun Y Z => ?_; simp only [zz, reduceIte, Nat.reduceEqDiff, Nat.reduceLT, Nat.reduceLeDiff, Nat.reduceAdd, reduceCtorEq, Nat.reduceMul, of24_0, ok22, sz22, ag22, sl22, el22, ok38, sz38, ag38]; refine Z _ _ ?_; clear Z Y)
 refine S.nil ?_
 simp only [ze, reduceIte, Nat.reduceEqDiff, Nat.reduceLT, Nat.reduceLeDiff, Nat.reduceAdd, reduceCtorEq, Nat.reduceMul]
 apply_assumption
 refine AW.block ?_   -- 0
 refine AW.loop (fun m s σ => ∃ i : Nat, m + i = l.length ∧ s.t 1 = .lp 1 0 ∧ s.l 1 = some [.sl (l.map encBd)] ∧ s.t 2 = .lp 2 0 ∧ s.l 2 = some [.c (.slice none 0 0)] ∧ s.t 7 = .sl (l.map encBd) ∧ s.t 8 = .c (.int .i64 l.length) ∧ s.t 9 = .c (.int .i64 i) ∧
  ((i = 0 ∧ s.t 3 = .c (.slice none 0 0) ∧ σ = Hp.empty) ∨ ∃ k, i ≠ 0 ∧ s.t 3 = .gl k ∧ σ = Hp.empty.setGr k (some ((38, 6), (l.take i).map encBd)))) l.length ?_ ?_
 ·refine ⟨0, by simp, ?_⟩
  simp only [zs, reduceIte, Nat.reduceEqDiff, Nat.reduceLT, Nat.reduceLeDiff, Nat.reduceAdd, reduceCtorEq, Nat.reduceMul]
  simp
 rintro m s σ ⟨i, hm, e1, l1, e2, l2, e7, e8, e9, hk⟩
 refine AW.seq_k fun K5 h5 => ?_
 refine AW.reg0 ?_
 (refine S.g rfl rfl fun Y Z => ?_; simp only [zz, reduceIte, Nat.reduceEqDiff, Nat.reduceAdd, e9, e8]; refine Z _ _ ?_; clear Z Y)
 refine S.nil ?_
 simp only [ze, reduceIte, Nat.reduceEqDiff, Nat.reduceLT, Nat.reduceLeDiff, Nat.reduceAdd, reduceCtorEq, Nat.reduceMul, e9, e8]
 apply_assumption
 refine AW.seq_k fun K6 h6 => ?_
 refine AW.cond (b := decide (i < l.length)) (by simp [ev]) (fun hc => ?_) (fun hc => ?_)
 ·refine AW.skip ?_
  simp only [zs, reduceIte, Nat.reduceEqDiff, Nat.reduceLT, Nat.reduceLeDiff, Nat.reduceAdd, reduceCtorEq, Nat.reduceMul]
  apply_assumption
  have hi : i < l.length := by simpa using hc
  have hg := getD_map (f := encBd) hi
  have htk : l.take (i + 1) = l.take i ++ [l[i]] := by rw [List.take_append_getElem]
  have hmem := hl _ (List.getElem_mem hi)
  generalize ha : l[i] = a at hg htk hmem
  refine AW.seq_k fun K7 h7 => ?_
  refine AW.block ?_   -- 1
  refine AW.seq_k fun K8 h8 => ?_
  refine AW.reg0 ?_
  iterate 4 (refine S.g rfl rfl fun Y Z => ?_; simp only [zz, reduceIte, Nat.reduceEqDiff, Nat.reduceLT, Nat.reduceLeDiff, Nat.reduceAdd, reduceCtorEq, Nat.reduceMul, sl22, el22, ok38, sz38, ag38, zt38, e7, e9, hi, hg, encBd]; refine Z _ _ ?_; clear Z Y)
  refine S.nil ?_
  simp only [ze, reduceIte, Nat.reduceEqDiff, Nat.reduceLT, Nat.reduceLeDiff, Nat.reduceAdd, reduceCtorEq, Nat.reduceMul, e7, e9, hi, hg, encBd]
  apply_assumption
  rcases hk with ⟨rfl, e3, rfl⟩ | ⟨k, hi0, e3, rfl⟩
  ·skip
   refine AW.draw (T := { sd := fun d => d == 5 }) (fun _ _ h => by cases h) mixedO [(0, 0), (1, 0), (3, 0), (2, 1), (4, 1), (5, 2), (6, 0), (7, 2), (8, 2), (9, 0)] rfl (by kernel_rfl) (by kernel_rfl) ?_
   iterate 3 (refine D.g rfl trivial rfl rfl fun Y Z => ?_; simp only [zz, reduceIte, Nat.reduceEqDiff, Nat.reduceLT, Nat.reduceLeDiff, Nat.reduceAdd, reduceCtorEq, Nat.reduceMul, of38_0, of38_1, e3, encEv]; refine Z _ _ ?_; clear Z Y)
   iterate 2 (refine D.g rfl (by first | rfl | (simp only [stC, ze, reduceIte, Nat.reduceEqDiff, e3, encEv]; done) | (simp only [stC, ze, reduceIte, Nat.reduceEqDiff, e3, encEv]; rfl)) rfl rfl fun Y Z => ?_; simp only [zz, reduceIte, Nat.reduceEqDiff, Nat.reduceLT, Nat.reduceLeDiff, Nat.reduceAdd, reduceCtorEq, Nat.reduceMul, ok9, sz9, ag9, ok36, sz36, ag36, e3, encEv]; refine Z _ _ ?_; clear Z Y)
   (refine D.g rfl trivial rfl rfl fun Y Z => ?_; simp only [zz, reduceIte, Nat.reduceEqDiff, Nat.reduceLT, Nat.reduceLeDiff, Nat.reduceAdd, reduceCtorEq, Nat.reduceMul, e3, encEv]; refine PCalls.eqto (clone_ev _ (by assumption)) ?_ <;> (refine Z _ _ ?_; clear Z Y))
   (refine D.g rfl trivial rfl rfl fun Y Z => ?_; simp only [zz, reduceIte, Nat.reduceEqDiff, Nat.reduceLT, Nat.reduceLeDiff, Nat.reduceAdd, reduceCtorEq, Nat.reduceMul, zt38, pl38, e3, encEv]; refine Z _ _ ?_; clear Z Y)
   (refine D.g rfl trivial rfl rfl fun Y Z => ?_; simp only [zb, reduceIte, Nat.reduceEqDiff, Nat.reduceLT, Nat.reduceLeDiff, Nat.reduceAdd, reduceCtorEq, Nat.reduceMul, sl22, el22, ok38, sz38, ag38, zt38, by38, e3, encEv]; refine Z _ _ ?_; clear Z Y)
   (refine D.g rfl trivial rfl rfl fun Y Z => ?_; simp only [zz, reduceIte, Nat.reduceEqDiff, Nat.reduceLT, Nat.reduceLeDiff, Nat.reduceAdd, reduceCtorEq, Nat.reduceMul, sl22, el22, ok38, sz38, ag38, zt38, by38, e3, encEv]; refine ⟨len_bd [a], by unfold maxLen; omega, by unfold reach; omega, fun k2 hk2 => ?_⟩ <;> (refine Z _ _ ?_; clear Z Y))
   (refine D.g rfl trivial rfl rfl fun Y Z => ?_; simp only [zz, reduceIte, Nat.reduceEqDiff, Nat.reduceAdd, e3, encEv]; refine Z _ _ ?_; clear Z Y)
   refine D.nil ?_
   simp only [ze, reduceIte, Nat.reduceEqDiff, Nat.reduceLT, Nat.reduceLeDiff, Nat.reduceAdd, reduceCtorEq, Nat.reduceMul, e3, encEv]
   apply_assumption
   have hw : IntKind.i64.wrap (((0 : Nat) : Int) + 1) = ((0 + 1 : Nat) : Int) := by rw [wrap_small _ (by omega) (by omega)]; rfl
   refine AW.reg0 ?_
   iterate 2 (refine S.g rfl rfl fun Y Z => ?_; simp only [zz, reduceIte, Nat.reduceEqDiff, Nat.reduceAdd, e9, hw, e1, e2, e7, e8, l1, l2]; refine Z _ _ ?_; clear Z Y)
   refine S.nil ?_
   simp only [ze, reduceIte, Nat.reduceEqDiff, Nat.reduceLT, Nat.reduceLeDiff, Nat.reduceAdd, reduceCtorEq, Nat.reduceMul, e9, hw, e1, e2, e7, e8, l1, l2]
   refine ⟨m - 1, by omega, 1, by omega, rfl, .inr ⟨k2, by omega, rfl, ?_⟩⟩
   rw [show l.take 1 = [] ++ [a] from htk]; rfl
  ·have htl : (l.take i).length = i := by rw [List.length_take]; omega
   refine AW.draw (T := { sd := fun d => d == 5 }) (fun _ _ h => by cases h) mixedO [(0, 0), (1, 0), (3, 0), (2, 1), (4, 1), (5, 2), (6, 0), (7, 2), (8, 2), (9, 0)] rfl (by kernel_rfl) (by kernel_rfl) ?_
   iterate 3 (refine D.g rfl trivial rfl rfl fun Y Z => ?_; simp only [zz, reduceIte, Nat.reduceEqDiff, Nat.reduceLT, Nat.reduceLeDiff, Nat.reduceAdd, reduceCtorEq, Nat.reduceMul, of38_0, of38_1, e3, encEv, htl]; refine Z _ _ ?_; clear Z Y)
   iterate 2 (refine D.g rfl (by first | rfl | (simp only [stC, ze, reduceIte, Nat.reduceEqDiff, e3, encEv, htl]; done) | (simp only [stC, ze, reduceIte, Nat.reduceEqDiff, e3, encEv, htl]; rfl)) rfl rfl fun Y Z => ?_; simp only [zz, reduceIte, Nat.reduceEqDiff, Nat.reduceLT, Nat.reduceLeDiff, Nat.reduceAdd, reduceCtorEq, Nat.reduceMul, ok9, sz9, ag9, ok36, sz36, ag36, e3, encEv, htl]; refine Z _ _ ?_; clear Z Y)
   (refine D.g rfl trivial rfl rfl fun Y Z => ?_; simp only [zz, reduceIte, Nat.reduceEqDiff, Nat.reduceLT, Nat.reduceLeDiff, Nat.reduceAdd, reduceCtorEq, Nat.reduceMul, e3, encEv, htl]; refine PCalls.eqto (clone_ev _ (by assumption)) ?_ <;> (refine Z _ _ ?_; clear Z Y))
   (refine D.g rfl trivial rfl rfl fun Y Z => ?_; simp only [zz, reduceIte, Nat.reduceEqDiff, Nat.reduceLT, Nat.reduceLeDiff, Nat.reduceAdd, reduceCtorEq, Nat.reduceMul, zt38, pl38, e3, encEv, htl]; refine Z _ _ ?_; clear Z Y)
   (refine D.g rfl trivial rfl rfl fun Y Z => ?_; simp only [zb, reduceIte, Nat.reduceEqDiff, Nat.reduceLT, Nat.reduceLeDiff, Nat.reduceAdd, reduceCtorEq, Nat.reduceMul, sl22, el22, ok38, sz38, ag38, zt38, by38, e3, encEv, htl]; refine Z _ _ ?_; clear Z Y)
   (refine D.g rfl trivial rfl rfl fun Y Z => ?_; simp only [zz, reduceIte, Nat.reduceEqDiff, Nat.reduceLT, Nat.reduceLeDiff, Nat.reduceAdd, reduceCtorEq, Nat.reduceMul, sl22, el22, ok38, sz38, ag38, zt38, by38, e3, encEv, htl]; refine ⟨len_bd [a], by unfold maxLen; omega, by unfold reach; omega, fun k2 hk2 => ?_⟩ <;> (refine Z _ _ ?_; clear Z Y))
   (refine D.g rfl trivial rfl rfl fun Y Z => ?_; simp only [zz, reduceIte, Nat.reduceEqDiff, Nat.reduceAdd, e3, encEv, htl]; refine Z _ _ ?_; clear Z Y)
   refine D.nil ?_
   simp only [ze, reduceIte, Nat.reduceEqDiff, Nat.reduceLT, Nat.reduceLeDiff, Nat.reduceAdd, reduceCtorEq, Nat.reduceMul, e3, encEv, htl]
   apply_assumption
   have hw : IntKind.i64.wrap ((i : Int) + 1) = ((i + 1 : Nat) : Int) := by rw [wrap_small _ (by omega) (by omega)]; rfl
   refine AW.reg0 ?_
   iterate 2 (refine S.g rfl rfl fun Y Z => ?_; simp only [zz, reduceIte, Nat.reduceEqDiff, Nat.reduceAdd, e9, hw, e1, e2, e7, e8, l1, l2]; refine Z _ _ ?_; clear Z Y)
   refine S.nil ?_
   simp only [ze, reduceIte, Nat.reduceEqDiff, Nat.reduceLT, Nat.reduceLeDiff, Nat.reduceAdd, reduceCtorEq, Nat.reduceMul, e9, hw, e1, e2, e7, e8, l1, l2]
   refine ⟨m - 1, by omega, i + 1, by omega, rfl, .inr ⟨k2, by omega, rfl, ?_⟩⟩
   rw [htk, List.map_append]
   simp [encBd]
 ·refine AW.exit ?_
  simp only [zs, reduceIte, Nat.reduceEqDiff, Nat.reduceLT, Nat.reduceLeDiff, Nat.reduceAdd, reduceCtorEq, Nat.reduceMul]
  -- EXIT 0
  -- BEHIND THE LOOP
  apply_assumption
  have hi : l.length ≤ i := by simpa using hc
  rcases hk with ⟨rfl, e3, rfl⟩ | ⟨k, hi0, e3, rfl⟩
  ·have h0 : l = [] := List.eq_nil_of_length_eq_zero (by omega)
   refine AW.seq_k fun K9 h9 => ?_
   refine AW.reg0 ?_
   (refine S.g rfl rfl fun Y Z => ?_; simp only [zz, reduceIte, Nat.reduceEqDiff, Nat.reduceAdd, e3, e2, l2]; refine Z _ _ ?_; clear Z Y)
   (refine S.g rfl rfl fun Y Z => ?_; simp only [zz, reduceIte, Nat.reduceEqDiff, Nat.reduceLT, Nat.reduceLeDiff, Nat.reduceAdd, reduceCtorEq, Nat.reduceMul, zt24, pl24, e3, e2, l2]; refine Z _ _ ?_; clear Z Y)
   (refine S.g rfl rfl fun Y Z => ?_; simp only [zz, reduceIte, Nat.reduceEqDiff, Nat.reduceLT, Nat.reduceLeDiff, Nat.reduceAdd, reduceCtorEq, Nat.reduceMul, ok24, sz24, ag24, e3, e2, l2]; refine Z _ _ ?_; clear Z Y)
   refine S.nil ?_
   simp only [ze, reduceIte, Nat.reduceEqDiff, Nat.reduceLT, Nat.reduceLeDiff, Nat.reduceAdd, reduceCtorEq, Nat.reduceMul, e3, e2, l2]
   apply_assumption
   refine AW.ret ?_
   simp only [zs, reduceIte, Nat.reduceEqDiff, Nat.reduceLT, Nat.reduceLeDiff, Nat.reduceAdd, reduceCtorEq, Nat.reduceMul, qLoad, ok24, sz24, ag24, cut, List.drop_zero, List.take_succ_cons, List.take_zero, e2]
   exact .inl h0
  ·rw [List.take_of_length_le hi]
   refine AW.seq_k fun K10 h10 => ?_
   refine AW.reg0 ?_
   (refine S.g rfl rfl fun Y Z => ?_; simp only [zz, reduceIte, Nat.reduceEqDiff, Nat.reduceAdd, e3, e2, l2]; refine Z _ _ ?_; clear Z Y)
   (refine S.g rfl rfl fun Y Z => ?_; simp only [zz, reduceIte, Nat.reduceEqDiff, Nat.reduceLT, Nat.reduceLeDiff, Nat.reduceAdd, reduceCtorEq, Nat.reduceMul, zt24, pl24, e3, e2, l2]; refine Z _ _ ?_; clear Z Y)
   (refine S.g rfl rfl fun Y Z => ?_; simp only [zz, reduceIte, Nat.reduceEqDiff, Nat.reduceLT, Nat.reduceLeDiff, Nat.reduceAdd, reduceCtorEq, Nat.reduceMul, ok24, sz24, ag24, e3, e2, l2]; refine Z _ _ ?_; clear Z Y)
   refine S.nil ?_
   simp only [ze, reduceIte, Nat.reduceEqDiff, Nat.reduceLT, Nat.reduceLeDiff, Nat.reduceAdd, reduceCtorEq, Nat.reduceMul, e3, e2, l2]
   apply_assumption
   refine AW.ret ?_
   simp only [zs, reduceIte, Nat.reduceEqDiff, Nat.reduceLT, Nat.reduceLeDiff, Nat.reduceAdd, reduceCtorEq, Nat.reduceMul, qLoad, ok24, sz24, ag24, cut, List.drop_zero, List.take_succ_cons, List.take_zero, e2]
   exact .inr ⟨k, fun e => by subst e; simp at hm; omega, rfl, rfl⟩
theorem clone_part (l : List Bd) (hl : ∀ b ∈ l, b.ev.attrs.length * 48 ≤ 140737488355328) (hn : l.length * 80 ≤ 140737488355328) : PCalls Tryz.prog 8 [.agg [.sl (l.map encBd)]] (fun r => r = .agg [.sl (l.map encBd)]) := by
 refine (clone_grow l hl hn).freezeAll 3 fun v σ h => ?_
 rcases h with ⟨rfl, rfl, rfl⟩ | ⟨k, _, rfl, rfl⟩
 ·rfl
 ·have hk : (hpB k l).gr k = some ((38, 6), l.map encBd) := by simp [hpB]
  simp only [thaw, List.map, hk, List.map_map, wk, wk1]
  congr 3
end Go.Abs.M
namespace Go.Abs.M
open Go Go.Abs Go.Proofs
set_option maxRecDepth 20000
set_option linter.unusedSimpArgs false
set_option linter.unusedVariables false
theorem rtime_spec (n : Int) : PCalls Tryz.prog 91 [.c (.int .i64 n)] (fun r => r = .c (.bool (timeOk n))) := by
 refine PCalls.intro Tryz.call91 Tryz.func91 rfl Tryz.ntmps91 Tryz.results91 (by simp) ?_
 refine AW.seq_k fun K1 h1 => ?_
 all_goals refine AW.reg0 ?_
 all_goals (refine S.g rfl rfl fun Y Z => ?_; simp only [zz, reduceIte, Nat.reduceEqDiff, Nat.reduceAdd]; refine Z _ _ ?_; clear Z Y)
 all_goals refine S.nil ?_
 all_goals simp only [ze, reduceIte, Nat.reduceEqDiff, Nat.reduceLeDiff, Nat.reduceAdd]
 all_goals apply_assumption
 refine AW.seq_j (fun s' σ' => σ' = Hp.empty ∧ s'.t 2 = .c (.bool (timeOk n))) ?_ ?_
 ·skip
  all_goals refine AW.reg0 ?_
  all_goals (refine S.g rfl rfl fun Y Z => ?_; simp only [zz, reduceIte, Nat.reduceEqDiff, Nat.reduceAdd]; refine Z _ _ ?_; clear Z Y)
  all_goals (refine S.g rfl rfl fun Y Z => ?_; simp only [zz, reduceIte, Nat.reduceEqDiff, Nat.reduceLeDiff, Nat.reduceAdd]; refine S.bool fun b a4 => ?_; cases b <;> (try (exfalso; first | exact Bool.noConfusion a4 | (have h := of_decide_eq_true a4; omega) | (have h := of_decide_eq_false a4; omega))) <;> (refine Z _ _ ?_; clear Z Y))
  all_goals (refine S.g rfl rfl fun Y Z => ?_; simp only [zz, reduceIte, Nat.reduceEqDiff, Nat.reduceAdd]; refine Z _ _ ?_; clear Z Y)
  all_goals iterate 2 (first | (refine S.y rfl rfl rfl rfl fun Y Z => ?_; simp only [zz, reduceIte, Nat.reduceEqDiff, Nat.reduceAdd]; refine Z _ _ ?_; clear Z Y) | ((first | refine S.x rfl rfl rfl rfl fun Y Z => ?_ | refine S.u rfl rfl rfl rfl fun Y Z => ?_); simp only [ze, reduceIte, Nat.reduceEqDiff]; refine Z _ _ ?_; clear Z Y))
  all_goals iterate 2 (refine S.g rfl rfl fun Y Z => ?_; simp only [zz, reduceIte, Nat.reduceEqDiff, Nat.reduceAdd]; refine Z _ _ ?_; clear Z Y)
  all_goals refine S.nil ?_
  all_goals simp only [ze, reduceIte, Nat.reduceEqDiff, Nat.reduceLeDiff, Nat.reduceAdd]
  all_goals (try simp only [beq_eq_false_iff_ne, decide_eq_true_eq, decide_eq_false_iff_not, beq_iff_eq, ne_eq, Bool.not_eq_true', Bool.not_eq_false', bne_iff_ne, bne_eq_false_iff_eq] at *)
  all_goals (try simp only [V.c.injEq, Value.bool.injEq, Value.int.injEq, true_and, timeOk])
  all_goals first | done | rfl | omega | ((rw [Bool.eq_iff_iff]; simp only [beq_eq_false_iff_ne, decide_eq_true_eq, decide_eq_false_iff_not, beq_iff_eq, ne_eq, Bool.not_eq_true', Bool.not_eq_false', bne_iff_ne, bne_eq_false_iff_eq, Bool.false_or, Bool.true_or, Bool.or_false, Bool.or_true, Bool.false_and, Bool.and_false, Bool.true_and, Bool.and_true, Bool.not_true, Bool.not_false, Bool.or_eq_false_iff, Bool.and_eq_false_iff, Bool.or_eq_true, Bool.and_eq_true, Bool.false_eq_true, Bool.true_eq_false, true_iff, iff_true, false_iff, iff_false]) <;> omega)
 rintro s σ ⟨rfl, e2⟩
 refine AW.ret ?_
 all_goals simp only [zs, reduceIte, Nat.reduceEqDiff, Nat.reduceLeDiff, Nat.reduceAdd, e2]
theorem letter_spec (c : UInt8) : PCalls Tryz.prog 90 [.c (.int .u8 c.toNat)] (fun r => r = .c (.bool (letter c))) := by
 refine PCalls.intro Tryz.call90 Tryz.func90 rfl Tryz.ntmps90 Tryz.results90 (by simp) ?_
 refine AW.seq_k fun K1 h1 => ?_
 all_goals refine AW.reg0 ?_
 all_goals (refine S.g rfl rfl fun Y Z => ?_; simp only [zz, reduceIte, Nat.reduceEqDiff, Nat.reduceAdd]; refine Z _ _ ?_; clear Z Y)
 all_goals refine S.nil ?_
 all_goals simp only [ze, reduceIte, Nat.reduceEqDiff, Nat.reduceLeDiff, Nat.reduceAdd]
 all_goals apply_assumption
 refine AW.seq_j (fun s' σ' => σ' = Hp.empty ∧ s'.t 2 = .c (.bool (letter c))) ?_ ?_
 ·skip
  all_goals refine AW.reg0 ?_
  all_goals (refine S.g rfl rfl fun Y Z => ?_; simp only [zz, reduceIte, Nat.reduceEqDiff, Nat.reduceAdd]; refine Z _ _ ?_; clear Z Y)
  all_goals (refine S.g rfl rfl fun Y Z => ?_; simp only [zz, reduceIte, Nat.reduceEqDiff, Nat.reduceLeDiff, Nat.reduceAdd]; refine S.bool fun b a4 => ?_; cases b <;> (try (exfalso; first | exact Bool.noConfusion a4 | (have h := of_decide_eq_true a4; omega) | (have h := of_decide_eq_false a4; omega))) <;> (refine Z _ _ ?_; clear Z Y))
  all_goals (refine S.g rfl rfl fun Y Z => ?_; simp only [zz, reduceIte, Nat.reduceEqDiff, Nat.reduceAdd]; refine Z _ _ ?_; clear Z Y)
  all_goals (first | (refine S.y rfl rfl rfl rfl fun Y Z => ?_; simp only [zz, reduceIte, Nat.reduceEqDiff, Nat.reduceAdd]; refine Z _ _ ?_; clear Z Y) | ((first | refine S.x rfl rfl rfl rfl fun Y Z => ?_ | refine S.u rfl rfl rfl rfl fun Y Z => ?_); simp only [ze, reduceIte, Nat.reduceEqDiff]; refine Z _ _ ?_; clear Z Y))
  all_goals (first | (refine S.y rfl rfl rfl rfl fun Y Z => ?_; simp only [zz, reduceIte, Nat.reduceEqDiff, Nat.reduceLeDiff, Nat.reduceAdd]; refine S.bool fun b a7 => ?_; cases b <;> (try (exfalso; first | exact Bool.noConfusion a7 | (have h := of_decide_eq_true a7; omega) | (have h := of_decide_eq_false a7; omega))) <;> (refine Z _ _ ?_; clear Z Y)) | ((first | refine S.x rfl rfl rfl rfl fun Y Z => ?_ | refine S.u rfl rfl rfl rfl fun Y Z => ?_); simp only [ze, reduceIte, Nat.reduceEqDiff]; refine Z _ _ ?_; clear Z Y))
  all_goals iterate 2 (refine S.g rfl rfl fun Y Z => ?_; simp only [zz, reduceIte, Nat.reduceEqDiff, Nat.reduceAdd]; refine Z _ _ ?_; clear Z Y)
  all_goals (first | (refine S.y rfl rfl rfl rfl fun Y Z => ?_; simp only [zz, reduceIte, Nat.reduceEqDiff, Nat.reduceAdd]; refine Z _ _ ?_; clear Z Y) | ((first | refine S.x rfl rfl rfl rfl fun Y Z => ?_ | refine S.u rfl rfl rfl rfl fun Y Z => ?_); simp only [ze, reduceIte, Nat.reduceEqDiff]; refine Z _ _ ?_; clear Z Y))
  all_goals (first | (refine S.y rfl rfl rfl rfl fun Y Z => ?_; simp only [zz, reduceIte, Nat.reduceEqDiff, Nat.reduceLeDiff, Nat.reduceAdd]; refine S.bool fun b a11 => ?_; cases b <;> (try (exfalso; first | exact Bool.noConfusion a11 | (have h := of_decide_eq_true a11; omega) | (have h := of_decide_eq_false a11; omega))) <;> (refine Z _ _ ?_; clear Z Y)) | ((first | refine S.x rfl rfl rfl rfl fun Y Z => ?_ | refine S.u rfl rfl rfl rfl fun Y Z => ?_); simp only [ze, reduceIte, Nat.reduceEqDiff]; refine Z _ _ ?_; clear Z Y))
  all_goals iterate 2 (first | (refine S.y rfl rfl rfl rfl fun Y Z => ?_; simp only [zz, reduceIte, Nat.reduceEqDiff, Nat.reduceAdd]; refine Z _ _ ?_; clear Z Y) | ((first | refine S.x rfl rfl rfl rfl fun Y Z => ?_ | refine S.u rfl rfl rfl rfl fun Y Z => ?_); simp only [ze, reduceIte, Nat.reduceEqDiff]; refine Z _ _ ?_; clear Z Y))
  all_goals (first | (refine S.y rfl rfl rfl rfl fun Y Z => ?_; simp only [zz, reduceIte, Nat.reduceEqDiff, Nat.reduceLeDiff, Nat.reduceAdd]; refine S.bool fun b a14 => ?_; cases b <;> (try (exfalso; first | exact Bool.noConfusion a14 | (have h := of_decide_eq_true a14; omega) | (have h := of_decide_eq_false a14; omega))) <;> (refine Z _ _ ?_; clear Z Y)) | ((first | refine S.x rfl rfl rfl rfl fun Y Z => ?_ | refine S.u rfl rfl rfl rfl fun Y Z => ?_); simp only [ze, reduceIte, Nat.reduceEqDiff]; refine Z _ _ ?_; clear Z Y))
  all_goals (first | (refine S.y rfl rfl rfl rfl fun Y Z => ?_; simp only [zz, reduceIte, Nat.reduceEqDiff, Nat.reduceAdd]; refine Z _ _ ?_; clear Z Y) | ((first | refine S.x rfl rfl rfl rfl fun Y Z => ?_ | refine S.u rfl rfl rfl rfl fun Y Z => ?_); simp only [ze, reduceIte, Nat.reduceEqDiff]; refine Z _ _ ?_; clear Z Y))
  all_goals iterate 2 (refine S.g rfl rfl fun Y Z => ?_; simp only [zz, reduceIte, Nat.reduceEqDiff, Nat.reduceAdd]; refine Z _ _ ?_; clear Z Y)
  all_goals iterate 2 (first | (refine S.y rfl rfl rfl rfl fun Y Z => ?_; simp only [zz, reduceIte, Nat.reduceEqDiff, Nat.reduceAdd]; refine Z _ _ ?_; clear Z Y) | ((first | refine S.x rfl rfl rfl rfl fun Y Z => ?_ | refine S.u rfl rfl rfl rfl fun Y Z => ?_); simp only [ze, reduceIte, Nat.reduceEqDiff]; refine Z _ _ ?_; clear Z Y))
  all_goals iterate 2 (refine S.g rfl rfl fun Y Z => ?_; simp only [zz, reduceIte, Nat.reduceEqDiff, Nat.reduceAdd]; refine Z _ _ ?_; clear Z Y)
  all_goals refine S.nil ?_
  all_goals simp only [ze, reduceIte, Nat.reduceEqDiff, Nat.reduceLeDiff, Nat.reduceAdd]
  all_goals (try simp only [beq_eq_false_iff_ne, decide_eq_true_eq, decide_eq_false_iff_not, beq_iff_eq, ne_eq, Bool.not_eq_true', Bool.not_eq_false', bne_iff_ne, bne_eq_false_iff_eq] at *)
  all_goals (try simp only [V.c.injEq, Value.bool.injEq, Value.int.injEq, true_and, letter])
  all_goals first | done | rfl | omega | ((rw [Bool.eq_iff_iff]; simp only [beq_eq_false_iff_ne, decide_eq_true_eq, decide_eq_false_iff_not, beq_iff_eq, ne_eq, Bool.not_eq_true', Bool.not_eq_false', bne_iff_ne, bne_eq_false_iff_eq, Bool.false_or, Bool.true_or, Bool.or_false, Bool.or_true, Bool.false_and, Bool.and_false, Bool.true_and, Bool.and_true, Bool.not_true, Bool.not_false, Bool.or_eq_false_iff, Bool.and_eq_false_iff, Bool.or_eq_true, Bool.and_eq_true, Bool.false_eq_true, Bool.true_eq_false, true_iff, iff_true, false_iff, iff_false]) <;> omega)
 rintro s σ ⟨rfl, e2⟩
 refine AW.ret ?_
 all_goals simp only [zs, reduceIte, Nat.reduceEqDiff, Nat.reduceLeDiff, Nat.reduceAdd, e2]
theorem rcheck_val (v : Val) : PCalls Tryz.prog 106 [.agg (encVal v)] (fun r => r = .c (.int .i64 (valErr v))) := by
 refine PCalls.intro Tryz.call106 Tryz.func106 rfl Tryz.ntmps106 Tryz.results106 (by simp) ?_
 refine AW.seq_k fun K1 h1 => ?_
 all_goals refine AW.reg0 ?_
 all_goals iterate 2 (refine S.g rfl rfl fun Y Z => ?_; simp only [zz, reduceIte, Nat.reduceEqDiff, Nat.reduceLeDiff, Nat.reduceAdd, ok40, sz40, ag40, encVal]; refine Z _ _ ?_; clear Z Y)
 all_goals refine S.nil ?_
 all_goals simp only [ze, reduceIte, Nat.reduceEqDiff, Nat.reduceLeDiff, Nat.reduceAdd, encVal]
 all_goals apply_assumption
 refine AW.seq_k fun K2 h2 => ?_
 refine AW.seq_j (fun s' σ' => σ' = Hp.empty ∧ s'.t 26 = .c (.bool (valOk v))) ?_ ?_
 ·skip
  all_goals refine AW.reg0 ?_
  all_goals iterate 2 (refine S.g rfl rfl fun Y Z => ?_; simp only [zz, reduceIte, Nat.reduceEqDiff, Nat.reduceLeDiff, Nat.reduceAdd, of40_0, ok3, sz3, ag3]; refine Z _ _ ?_; clear Z Y)
  all_goals (refine S.g rfl rfl fun Y Z => ?_; simp only [zz, reduceIte, Nat.reduceEqDiff, Nat.reduceLeDiff, Nat.reduceAdd]; refine S.bool fun b a5 => ?_; cases b <;> (try (exfalso; first | exact Bool.noConfusion a5 | (have h := of_decide_eq_true a5; omega) | (have h := of_decide_eq_false a5; omega))) <;> (refine Z _ _ ?_; clear Z Y))
  all_goals (refine S.g rfl rfl fun Y Z => ?_; simp only [zz, reduceIte, Nat.reduceEqDiff, Nat.reduceAdd]; refine Z _ _ ?_; clear Z Y)
  all_goals iterate 2 (first | (refine S.y rfl rfl rfl rfl fun Y Z => ?_; simp only [zz, reduceIte, Nat.reduceEqDiff, Nat.reduceLeDiff, Nat.reduceAdd, of40_2, ok9, sz9, ag9]; refine Z _ _ ?_; clear Z Y) | ((first | refine S.x rfl rfl rfl rfl fun Y Z => ?_ | refine S.u rfl rfl rfl rfl fun Y Z => ?_); simp only [ze, reduceIte, Nat.reduceEqDiff]; refine Z _ _ ?_; clear Z Y))
  all_goals (first | (refine S.y rfl rfl rfl rfl fun Y Z => ?_; simp only [zz, reduceIte, Nat.reduceEqDiff, Nat.reduceLeDiff, Nat.reduceAdd]; refine S.bool fun b a9 => ?_; cases b <;> (try (exfalso; first | exact Bool.noConfusion a9 | (have h := of_decide_eq_true a9; omega) | (have h := of_decide_eq_false a9; omega))) <;> (refine Z _ _ ?_; clear Z Y)) | ((first | refine S.x rfl rfl rfl rfl fun Y Z => ?_ | refine S.u rfl rfl rfl rfl fun Y Z => ?_); simp only [ze, reduceIte, Nat.reduceEqDiff]; refine Z _ _ ?_; clear Z Y))
  all_goals iterate 2 (refine S.g rfl rfl fun Y Z => ?_; simp only [zz, reduceIte, Nat.reduceEqDiff, Nat.reduceAdd]; refine Z _ _ ?_; clear Z Y)
  all_goals iterate 2 (first | (refine S.y rfl rfl rfl rfl fun Y Z => ?_; simp only [zz, reduceIte, Nat.reduceEqDiff, Nat.reduceLeDiff, Nat.reduceAdd, of40_0, ok3, sz3, ag3]; refine Z _ _ ?_; clear Z Y) | ((first | refine S.x rfl rfl rfl rfl fun Y Z => ?_ | refine S.u rfl rfl rfl rfl fun Y Z => ?_); simp only [ze, reduceIte, Nat.reduceEqDiff]; refine Z _ _ ?_; clear Z Y))
  all_goals (first | (refine S.y rfl rfl rfl rfl fun Y Z => ?_; simp only [zz, reduceIte, Nat.reduceEqDiff, Nat.reduceLeDiff, Nat.reduceAdd]; refine S.bool fun b a14 => ?_; cases b <;> (try (exfalso; first | exact Bool.noConfusion a14 | (have h := of_decide_eq_true a14; omega) | (have h := of_decide_eq_false a14; omega))) <;> (refine Z _ _ ?_; clear Z Y)) | ((first | refine S.x rfl rfl rfl rfl fun Y Z => ?_ | refine S.u rfl rfl rfl rfl fun Y Z => ?_); simp only [ze, reduceIte, Nat.reduceEqDiff]; refine Z _ _ ?_; clear Z Y))
  all_goals iterate 3 (first | (refine S.y rfl rfl rfl rfl fun Y Z => ?_; simp only [zz, reduceIte, Nat.reduceEqDiff, Nat.reduceLeDiff, Nat.reduceAdd, of40_1, ok2, sz2, ag2]; refine Z _ _ ?_; clear Z Y) | ((first | refine S.x rfl rfl rfl rfl fun Y Z => ?_ | refine S.u rfl rfl rfl rfl fun Y Z => ?_); simp only [ze, reduceIte, Nat.reduceEqDiff]; refine Z _ _ ?_; clear Z Y))
  all_goals (first | (refine S.y rfl rfl rfl rfl fun Y Z => ?_; simp only [zz, reduceIte, Nat.reduceEqDiff, Nat.reduceLeDiff, Nat.reduceAdd]; refine S.bool fun b a18 => ?_; cases b <;> (try (exfalso; first | exact Bool.noConfusion a18 | (have h := of_decide_eq_true a18; omega) | (have h := of_decide_eq_false a18; omega))) <;> (refine Z _ _ ?_; clear Z Y)) | ((first | refine S.x rfl rfl rfl rfl fun Y Z => ?_ | refine S.u rfl rfl rfl rfl fun Y Z => ?_); simp only [ze, reduceIte, Nat.reduceEqDiff]; refine Z _ _ ?_; clear Z Y))
  all_goals iterate 7 (first | (refine S.y rfl rfl rfl rfl fun Y Z => ?_; simp only [zz, reduceIte, Nat.reduceEqDiff, Nat.reduceLeDiff, Nat.reduceAdd, of40_2, ok9, sz9, ag9, st9]; refine Z _ _ ?_; clear Z Y) | ((first | refine S.x rfl rfl rfl rfl fun Y Z => ?_ | refine S.u rfl rfl rfl rfl fun Y Z => ?_); simp only [ze, reduceIte, Nat.reduceEqDiff]; refine Z _ _ ?_; clear Z Y))
  all_goals (refine S.g rfl rfl fun Y Z => ?_; simp only [zz, reduceIte, Nat.reduceEqDiff, Nat.reduceAdd]; refine Z _ _ ?_; clear Z Y)
  all_goals refine S.nil ?_
  all_goals simp only [ze, reduceIte, Nat.reduceEqDiff, Nat.reduceLeDiff, Nat.reduceAdd]
  all_goals (try simp only [beq_eq_false_iff_ne, decide_eq_true_eq, decide_eq_false_iff_not, beq_iff_eq, ne_eq, Bool.not_eq_true', Bool.not_eq_false', bne_iff_ne, bne_eq_false_iff_eq] at *)
  all_goals (try simp only [V.c.injEq, Value.bool.injEq, Value.int.injEq, true_and, valOk])
  all_goals first | done | rfl | omega | ((rw [Bool.eq_iff_iff]; simp only [beq_eq_false_iff_ne, decide_eq_true_eq, decide_eq_false_iff_not, beq_iff_eq, ne_eq, Bool.not_eq_true', Bool.not_eq_false', bne_iff_ne, bne_eq_false_iff_eq, Bool.false_or, Bool.true_or, Bool.or_false, Bool.or_true, Bool.false_and, Bool.and_false, Bool.true_and, Bool.and_true, Bool.not_true, Bool.not_false, Bool.or_eq_false_iff, Bool.and_eq_false_iff, Bool.or_eq_true, Bool.and_eq_true, Bool.false_eq_true, Bool.true_eq_false, true_iff, iff_true, false_iff, iff_false]) <;> omega)
 rintro s σ ⟨rfl, e26⟩
 refine AW.cond (b := valOk v) e26 (fun hc => ?_) (fun hc => AW.skip ?_)
 ·refine AW.seq_k fun K3 h3 => ?_
  all_goals refine AW.reg0 ?_
  all_goals (refine S.g rfl rfl fun Y Z => ?_; simp only [zz, reduceIte, Nat.reduceEqDiff, Nat.reduceAdd]; refine Z _ _ ?_; clear Z Y)
  all_goals refine S.nil ?_
  all_goals simp only [ze, reduceIte, Nat.reduceEqDiff, Nat.reduceLeDiff, Nat.reduceAdd]
  all_goals apply_assumption
  refine AW.ret ?_
  all_goals simp only [zs, reduceIte, Nat.reduceEqDiff, Nat.reduceLeDiff, Nat.reduceAdd]
  simp [valErr, hc]
 ·all_goals simp only [zs, reduceIte, Nat.reduceEqDiff, Nat.reduceLeDiff, Nat.reduceAdd]
  all_goals apply_assumption
  refine AW.seq_k fun K4 h4 => ?_
  all_goals refine AW.reg0 ?_
  all_goals (refine S.g rfl rfl fun Y Z => ?_; simp only [zz, reduceIte, Nat.reduceEqDiff, Nat.reduceAdd]; refine Z _ _ ?_; clear Z Y)
  all_goals refine S.nil ?_
  all_goals simp only [ze, reduceIte, Nat.reduceEqDiff, Nat.reduceLeDiff, Nat.reduceAdd]
  all_goals apply_assumption
  refine AW.ret ?_
  all_goals simp only [zs, reduceIte, Nat.reduceEqDiff, Nat.reduceLeDiff, Nat.reduceAdd]
  simp [valErr, hc]
theorem rname_spec (str : ByteArray) (hn : str.size < 4611686018427387904) : PCalls Tryz.prog 75 [.c (.string str)] (fun v => v = .c (.bool (isName str))) := by
 refine PCalls.intro Tryz.call75 Tryz.func75 rfl Tryz.ntmps75 Tryz.results75 (by simp) ?_
 refine AW.seq_k fun K1 h1 => ?_
 all_goals refine AW.reg0 ?_
 all_goals (refine S.g rfl rfl fun Y Z => ?_; simp only [zz, reduceIte, Nat.reduceEqDiff, Nat.reduceAdd]; refine Z _ _ ?_; clear Z Y)
 all_goals refine S.nil ?_
 all_goals simp only [ze, reduceIte, Nat.reduceEqDiff, Nat.reduceLeDiff, Nat.reduceAdd]
 all_goals apply_assumption
 refine AW.seq_k fun K2 h2 => ?_
 refine AW.seq_j (fun s' σ' => σ' = Hp.empty ∧ s'.t 0 = .c (.string str) ∧ s'.t 10 = .c (.bool (decide (str.size = 0 ∨ 32 < str.size)))) ?_ ?_
 ·skip
  all_goals refine AW.reg0 ?_
  all_goals (refine S.g rfl rfl fun Y Z => ?_; simp only [zz, reduceIte, Nat.reduceEqDiff, Nat.reduceAdd]; refine Z _ _ ?_; clear Z Y)
  all_goals (refine S.g rfl rfl fun Y Z => ?_; simp only [zz, reduceIte, Nat.reduceEqDiff, Nat.reduceLeDiff, Nat.reduceAdd]; refine S.bool fun b a5 => ?_; cases b <;> (try (exfalso; first | exact Bool.noConfusion a5 | (have h := of_decide_eq_true a5; omega) | (have h := of_decide_eq_false a5; omega))) <;> (refine Z _ _ ?_; clear Z Y))
  all_goals (refine S.g rfl rfl fun Y Z => ?_; simp only [zz, reduceIte, Nat.reduceEqDiff, Nat.reduceAdd]; refine Z _ _ ?_; clear Z Y)
  all_goals iterate 3 (first | (refine S.y rfl rfl rfl rfl fun Y Z => ?_; simp only [zz, reduceIte, Nat.reduceEqDiff, Nat.reduceLeDiff, Nat.reduceAdd, st9]; refine Z _ _ ?_; clear Z Y) | ((first | refine S.x rfl rfl rfl rfl fun Y Z => ?_ | refine S.u rfl rfl rfl rfl fun Y Z => ?_); simp only [ze, reduceIte, Nat.reduceEqDiff]; refine Z _ _ ?_; clear Z Y))
  all_goals (refine S.g rfl rfl fun Y Z => ?_; simp only [zz, reduceIte, Nat.reduceEqDiff, Nat.reduceAdd]; refine Z _ _ ?_; clear Z Y)
  all_goals refine S.nil ?_
  all_goals simp only [ze, reduceIte, Nat.reduceEqDiff, Nat.reduceLeDiff, Nat.reduceAdd]
  all_goals (try simp only [beq_eq_false_iff_ne, decide_eq_true_eq, decide_eq_false_iff_not, beq_iff_eq, ne_eq, Bool.not_eq_true', Bool.not_eq_false', bne_iff_ne, bne_eq_false_iff_eq] at *)
  all_goals (try simp only [V.c.injEq, Value.bool.injEq, Value.int.injEq, true_and])
  all_goals first | done | rfl | omega | ((rw [Bool.eq_iff_iff]; simp only [beq_eq_false_iff_ne, decide_eq_true_eq, decide_eq_false_iff_not, beq_iff_eq, ne_eq, Bool.not_eq_true', Bool.not_eq_false', bne_iff_ne, bne_eq_false_iff_eq, Bool.false_or, Bool.true_or, Bool.or_false, Bool.or_true, Bool.false_and, Bool.and_false, Bool.true_and, Bool.and_true, Bool.not_true, Bool.not_false, Bool.or_eq_false_iff, Bool.and_eq_false_iff, Bool.or_eq_true, Bool.and_eq_true, Bool.false_eq_true, Bool.true_eq_false, true_iff, iff_true, false_iff, iff_false]) <;> omega)
 rintro s σ ⟨rfl, e0, e10⟩
 refine AW.cond (b := _) e10 (fun hc => ?_) (fun hc => ?_)
 ·refine AW.seq_k fun K3 h3 => ?_
  all_goals refine AW.reg0 ?_
  all_goals (refine S.g rfl rfl fun Y Z => ?_; simp only [zz, reduceIte, Nat.reduceEqDiff, Nat.reduceAdd]; refine Z _ _ ?_; clear Z Y)
  all_goals refine S.nil ?_
  all_goals simp only [ze, reduceIte, Nat.reduceEqDiff, Nat.reduceLeDiff, Nat.reduceAdd]
  all_goals apply_assumption
  refine AW.ret ?_
  all_goals simp only [zs, reduceIte, Nat.reduceEqDiff, Nat.reduceLeDiff, Nat.reduceAdd]
  have hx := of_decide_eq_true hc
  rcases hx with hx | hx
  ·simp [isName, hx]
  ·have : decide (str.size ≤ 32) = false := by rw [decide_eq_false_iff_not]; omega
   simp [isName, this]
 ·refine AW.skip ?_
  have hx := of_decide_eq_false hc
  have hx0 : ¬ str.size = 0 := fun e => hx (.inl e)
  have hx1 : str.size ≤ 32 := by omega
  all_goals simp only [zs, reduceIte, Nat.reduceEqDiff, Nat.reduceLeDiff, Nat.reduceAdd]
  all_goals apply_assumption
  refine AW.seq_k fun K4 h4 => ?_
  refine AW.seq_k fun K5 h5 => ?_
  all_goals refine AW.reg0 ?_
  all_goals (refine S.g rfl rfl fun Y Z => ?_; simp only [zz, reduceIte, Nat.reduceEqDiff, Nat.reduceAdd]; refine Z _ _ ?_; clear Z Y)
  all_goals refine S.nil ?_
  all_goals simp only [ze, reduceIte, Nat.reduceEqDiff, Nat.reduceLeDiff, Nat.reduceAdd]
  all_goals apply_assumption
  refine AW.block ?_   -- 0
  refine AW.loop (fun m s σ => σ = Hp.empty ∧ ∃ i : Nat, m + i = str.size ∧ s.t 0 = .c (.string str) ∧ s.t 3 = .c (.int .i64 i) ∧ nameL 0 str.data.toList = nameL i (str.data.toList.drop i)) str.size ?_ ?_
  ·refine ⟨rfl, 0, by simp, ?_⟩
   all_goals simp only [zs, reduceIte, Nat.reduceEqDiff, Nat.reduceLeDiff, Nat.reduceAdd]
   exact ⟨e0, by simp, by simp⟩
  rintro m s σ ⟨rfl, i, hm, e0, e3, hp⟩
  refine AW.seq_k fun K6 h6 => ?_
  refine AW.seq_k fun K7 h7 => ?_
  all_goals refine AW.reg0 ?_
  all_goals iterate 4 (refine S.g rfl rfl fun Y Z => ?_; simp only [zz, reduceIte, Nat.reduceEqDiff, Nat.reduceLeDiff, Nat.reduceAdd, st9, e0, e3]; refine Z _ _ ?_; clear Z Y)
  all_goals refine S.nil ?_
  all_goals simp only [ze, reduceIte, Nat.reduceEqDiff, Nat.reduceLeDiff, Nat.reduceAdd, e0, e3]
  all_goals apply_assumption
  refine AW.cond (b := decide (i < str.size)) (by simp [ev]) (fun hc => ?_) (fun hc => ?_)
  ·refine AW.skip ?_
   all_goals simp only [zs, reduceIte, Nat.reduceEqDiff, Nat.reduceLeDiff, Nat.reduceAdd]
   all_goals apply_assumption
   have hi : i < str.size := by simpa using hc
   have hil : i < str.data.toList.length := by rw [Array.length_toList]; exact hi
   have hgd : str.data.getD i 0 = str.data.toList[i] := by
    have h2 : i < str.data.size := hi
    unfold Array.getD; rw [dif_pos h2]; simp
   generalize hcc : str.data.toList[i] = c at hgd
   have hd : str.data.toList.drop i = c :: str.data.toList.drop (i + 1) := by rw [← hcc]; exact List.drop_eq_getElem_cons hil
   refine AW.seq_k fun K8 h8 => ?_
   refine AW.block ?_   -- 1
   refine AW.seq_j (fun s' σ' => σ' = Hp.empty ∧ s'.t 0 = .c (.string str) ∧ s'.t 3 = .c (.int .i64 i) ∧ s'.t 37 = .c (.bool (!nameC i c))) ?_ ?_
   ·clear hp hd
    all_goals refine AW.reg0 ?_
    all_goals iterate 3 (refine S.g rfl rfl fun Y Z => ?_; simp only [zz, reduceIte, Nat.reduceEqDiff, Nat.reduceLeDiff, Nat.reduceAdd, st9, e0, e3, hi, hgd]; refine Z _ _ ?_; clear Z Y)
    all_goals (refine S.g rfl rfl fun Y Z => ?_; simp only [zz, reduceIte, Nat.reduceEqDiff, Nat.reduceLeDiff, Nat.reduceAdd, e0, e3, hi, hgd]; refine PCalls.eqto (letter_spec _) ?_; refine S.bool fun b a20 => ?_; cases b <;> (try (exfalso; first | exact Bool.noConfusion a20 | (have h := of_decide_eq_true a20; omega) | (have h := of_decide_eq_false a20; omega))) <;> (refine Z _ _ ?_; clear Z Y))
    all_goals iterate 2 (refine S.g rfl rfl fun Y Z => ?_; simp only [zz, reduceIte, Nat.reduceEqDiff, Nat.reduceAdd, e0, e3, hi, hgd]; refine Z _ _ ?_; clear Z Y)
    all_goals (first | (refine S.y rfl rfl rfl rfl fun Y Z => ?_; simp only [zz, reduceIte, Nat.reduceEqDiff, Nat.reduceAdd, e0, e3, hi, hgd]; refine Z _ _ ?_; clear Z Y) | ((first | refine S.x rfl rfl rfl rfl fun Y Z => ?_ | refine S.u rfl rfl rfl rfl fun Y Z => ?_); simp only [ze, reduceIte, Nat.reduceEqDiff]; refine Z _ _ ?_; clear Z Y))
    all_goals (first | (refine S.y rfl rfl rfl rfl fun Y Z => ?_; simp only [zz, reduceIte, Nat.reduceEqDiff, Nat.reduceLeDiff, Nat.reduceAdd, e0, e3, hi, hgd]; refine S.bool fun b a24 => ?_; cases b <;> (try (exfalso; first | exact Bool.noConfusion a24 | (have h := of_decide_eq_true a24; omega) | (have h := of_decide_eq_false a24; omega))) <;> (refine Z _ _ ?_; clear Z Y)) | ((first | refine S.x rfl rfl rfl rfl fun Y Z => ?_ | refine S.u rfl rfl rfl rfl fun Y Z => ?_); simp only [ze, reduceIte, Nat.reduceEqDiff]; refine Z _ _ ?_; clear Z Y))
    all_goals iterate 4 (first | (refine S.y rfl rfl rfl rfl fun Y Z => ?_; simp only [zz, reduceIte, Nat.reduceEqDiff, Nat.reduceLeDiff, Nat.reduceAdd, st9, e0, e3, hi, hgd]; refine Z _ _ ?_; clear Z Y) | ((first | refine S.x rfl rfl rfl rfl fun Y Z => ?_ | refine S.u rfl rfl rfl rfl fun Y Z => ?_); simp only [ze, reduceIte, Nat.reduceEqDiff]; refine Z _ _ ?_; clear Z Y))
    all_goals (first | (refine S.y rfl rfl rfl rfl fun Y Z => ?_; simp only [zz, reduceIte, Nat.reduceEqDiff, Nat.reduceLeDiff, Nat.reduceAdd, e0, e3, hi, hgd]; refine S.bool fun b a29 => ?_; cases b <;> (try (exfalso; first | exact Bool.noConfusion a29 | (have h := of_decide_eq_true a29; omega) | (have h := of_decide_eq_false a29; omega))) <;> (refine Z _ _ ?_; clear Z Y)) | ((first | refine S.x rfl rfl rfl rfl fun Y Z => ?_ | refine S.u rfl rfl rfl rfl fun Y Z => ?_); simp only [ze, reduceIte, Nat.reduceEqDiff]; refine Z _ _ ?_; clear Z Y))
    all_goals iterate 7 (first | (refine S.y rfl rfl rfl rfl fun Y Z => ?_; simp only [zz, reduceIte, Nat.reduceEqDiff, Nat.reduceLeDiff, Nat.reduceAdd, st9, e0, e3, hi, hgd]; refine Z _ _ ?_; clear Z Y) | ((first | refine S.x rfl rfl rfl rfl fun Y Z => ?_ | refine S.u rfl rfl rfl rfl fun Y Z => ?_); simp only [ze, reduceIte, Nat.reduceEqDiff]; refine Z _ _ ?_; clear Z Y))
    all_goals (refine S.g rfl rfl fun Y Z => ?_; simp only [zz, reduceIte, Nat.reduceEqDiff, Nat.reduceAdd, e0, e3, hi, hgd]; refine Z _ _ ?_; clear Z Y)
    all_goals refine S.nil ?_
    all_goals simp only [ze, reduceIte, Nat.reduceEqDiff, Nat.reduceLeDiff, Nat.reduceAdd, e0, e3, hi, hgd]
    all_goals (try simp only [beq_eq_false_iff_ne, decide_eq_true_eq, decide_eq_false_iff_not, beq_iff_eq, ne_eq, Bool.not_eq_true', Bool.not_eq_false', bne_iff_ne, bne_eq_false_iff_eq] at *)
    all_goals (try simp only [V.c.injEq, Value.bool.injEq, Value.int.injEq, true_and, nameC, a20])
    all_goals first | done | rfl | omega | ((rw [Bool.eq_iff_iff]; simp only [beq_eq_false_iff_ne, decide_eq_true_eq, decide_eq_false_iff_not, beq_iff_eq, ne_eq, Bool.not_eq_true', Bool.not_eq_false', bne_iff_ne, bne_eq_false_iff_eq, Bool.false_or, Bool.true_or, Bool.or_false, Bool.or_true, Bool.false_and, Bool.and_false, Bool.true_and, Bool.and_true, Bool.not_true, Bool.not_false, Bool.or_eq_false_iff, Bool.and_eq_false_iff, Bool.or_eq_true, Bool.and_eq_true, Bool.false_eq_true, Bool.true_eq_false, true_iff, iff_true, false_iff, iff_false]) <;> omega)
   rintro s1 σ1 ⟨rfl, f0, f3, f37⟩
   rw [hd] at hp
   refine AW.cond (b := !nameC i c) f37 (fun ht => ?_) (fun hf => AW.skip ?_)
   ·refine AW.seq_k fun K9 h9 => ?_
    all_goals refine AW.reg0 ?_
    all_goals (refine S.g rfl rfl fun Y Z => ?_; simp only [zz, reduceIte, Nat.reduceEqDiff, Nat.reduceAdd]; refine Z _ _ ?_; clear Z Y)
    all_goals refine S.nil ?_
    all_goals simp only [ze, reduceIte, Nat.reduceEqDiff, Nat.reduceLeDiff, Nat.reduceAdd]
    all_goals apply_assumption
    refine AW.ret ?_
    all_goals simp only [zs, reduceIte, Nat.reduceEqDiff, Nat.reduceLeDiff, Nat.reduceAdd]
    have hx : nameC i c = false := by simpa using ht
    simp [isName, hp, nameL, hx]
   ·all_goals simp only [zs, reduceIte, Nat.reduceEqDiff, Nat.reduceLeDiff, Nat.reduceAdd]
    all_goals apply_assumption
    have hw : IntKind.i64.wrap ((i : Int) + 1) = ((i + 1 : Nat) : Int) := by rw [wrap_small _ (by omega) (by omega)]; rfl
    all_goals refine AW.reg0 ?_
    all_goals iterate 3 (refine S.g rfl rfl fun Y Z => ?_; simp only [zz, reduceIte, Nat.reduceEqDiff, Nat.reduceAdd, f3, hw]; refine Z _ _ ?_; clear Z Y)
    all_goals refine S.nil ?_
    all_goals simp only [ze, reduceIte, Nat.reduceEqDiff, Nat.reduceLeDiff, Nat.reduceAdd, f3, hw]
    have hx : nameC i c = true := by simpa using hf
    refine ⟨m - 1, by omega, i + 1, by omega, f0, rfl, ?_⟩
    rw [hp, nameL, hx, Bool.true_and]
  ·refine AW.exit ?_
   all_goals simp only [zs, reduceIte, Nat.reduceEqDiff, Nat.reduceLeDiff, Nat.reduceAdd]
   -- EXIT 0
   all_goals apply_assumption
   have hi : str.size ≤ i := by simpa using hc
   have hnil : str.data.toList.drop i = [] := List.drop_of_length_le (by rw [Array.length_toList]; exact hi)
   rw [hnil] at hp
   refine AW.seq_k fun K10 h10 => ?_
   all_goals refine AW.reg0 ?_
   all_goals (refine S.g rfl rfl fun Y Z => ?_; simp only [zz, reduceIte, Nat.reduceEqDiff, Nat.reduceAdd]; refine Z _ _ ?_; clear Z Y)
   all_goals refine S.nil ?_
   all_goals simp only [ze, reduceIte, Nat.reduceEqDiff, Nat.reduceLeDiff, Nat.reduceAdd]
   all_goals apply_assumption
   refine AW.ret ?_
   all_goals simp only [zs, reduceIte, Nat.reduceEqDiff, Nat.reduceLeDiff, Nat.reduceAdd]
   have h2 : (str.size != 0) = true := by simpa using hx0
   simp only [V.c.injEq, Value.bool.injEq, isName, hp, nameL]
   rw [h2, Bool.true_and, Bool.true_and, eq_comm, decide_eq_true_eq]
   exact hx1
theorem rcheck_attrs (l : List Attr) (hl : okA l) : PCalls Tryz.prog 92 [.sl (l.map encAttr)] (fun r => r = .c (.int .i64 (attrsErr l))) := by
 refine PCalls.intro Tryz.call92 Tryz.func92 rfl Tryz.ntmps92 Tryz.results92 (by simp) ?_
 refine AW.seq_k fun K1 h1 => ?_
 refine AW.reg0 ?_
 (refine S.g rfl rfl fun Y Z => ?_; simp only [zz, reduceIte, Nat.reduceEqDiff, Nat.reduceAdd]; refine Z _ _ ?_; clear Z Y)
 refine S.nil ?_
 simp only [ze, reduceIte, Nat.reduceEqDiff, Nat.reduceLT, Nat.reduceLeDiff, Nat.reduceAdd, reduceCtorEq, Nat.reduceMul]
 apply_assumption
 refine AW.seq_k fun K2 h2 => ?_
 refine AW.seq_k fun K3 h3 => ?_
 refine AW.reg0 ?_
 iterate 3 (refine S.g rfl rfl fun Y Z => ?_; simp only [zz, reduceIte, Nat.reduceEqDiff, Nat.reduceLT, Nat.reduceLeDiff, Nat.reduceAdd, reduceCtorEq, Nat.reduceMul, sl34, el34, ok42, sz42, ag42]; refine Z _ _ ?_; clear Z Y)
 refine S.nil ?_
 simp only [ze, reduceIte, Nat.reduceEqDiff, Nat.reduceLT, Nat.reduceLeDiff, Nat.reduceAdd, reduceCtorEq, Nat.reduceMul]
 apply_assumption
 refine AW.cond (b := decide ((l.length : Int) > 8)) (by simp [ev]) (fun hc => ?_) (fun hc => ?_)
 ·refine AW.seq_k fun K4 h4 => ?_
  refine AW.reg0 ?_
  (refine S.g rfl rfl fun Y Z => ?_; simp only [zz, reduceIte, Nat.reduceEqDiff, Nat.reduceAdd]; refine Z _ _ ?_; clear Z Y)
  refine S.nil ?_
  simp only [ze, reduceIte, Nat.reduceEqDiff, Nat.reduceLT, Nat.reduceLeDiff, Nat.reduceAdd, reduceCtorEq, Nat.reduceMul]
  apply_assumption
  refine AW.ret ?_
  simp only [zs, reduceIte, Nat.reduceEqDiff, Nat.reduceLT, Nat.reduceLeDiff, Nat.reduceAdd, reduceCtorEq, Nat.reduceMul]
  have : 8 < l.length := by have := of_decide_eq_true hc; omega
  simp [attrsErr, this]
 ·refine AW.skip ?_
  simp only [zs, reduceIte, Nat.reduceEqDiff, Nat.reduceLT, Nat.reduceLeDiff, Nat.reduceAdd, reduceCtorEq, Nat.reduceMul]
  apply_assumption
  have hlen : l.length ≤ 8 := by have := of_decide_eq_false hc; omega
  refine AW.seq_k fun K5 h5 => ?_
  refine AW.seq_k fun K6 h6 => ?_
  refine AW.reg0 ?_
  (refine S.g rfl rfl fun Y Z => ?_; simp only [zz, reduceIte, Nat.reduceEqDiff, Nat.reduceAdd]; refine Z _ _ ?_; clear Z Y)
  refine S.nil ?_
  simp only [ze, reduceIte, Nat.reduceEqDiff, Nat.reduceLT, Nat.reduceLeDiff, Nat.reduceAdd, reduceCtorEq, Nat.reduceMul]
  apply_assumption
  refine AW.block ?_   -- 0
  refine AW.loop (fun m s σ => σ = Hp.empty ∧ ∃ i : Nat, m + i = l.length ∧ s.t 0 = .sl (l.map encAttr) ∧ s.t 3 = .c (.int .i64 i) ∧ 
   attrsFrom none l = attrsFrom (if i = 0 then none else (l[i-1]?).map (·.name)) (l.drop i)) l.length ?_ ?_
  ·refine ⟨rfl, 0, by simp, ?_⟩
   simp only [zs, reduceIte, Nat.reduceEqDiff, Nat.reduceLT, Nat.reduceLeDiff, Nat.reduceAdd, reduceCtorEq, Nat.reduceMul]
   simp
  rintro m s σ ⟨rfl, i, hm, e0, e11, hp⟩
  refine AW.seq_k fun K7 h7 => ?_
  refine AW.seq_k fun K8 h8 => ?_
  refine AW.reg0 ?_
  iterate 4 (refine S.g rfl rfl fun Y Z => ?_; simp only [zz, reduceIte, Nat.reduceEqDiff, Nat.reduceLT, Nat.reduceLeDiff, Nat.reduceAdd, reduceCtorEq, Nat.reduceMul, sl34, el34, ok42, sz42, ag42, e0, e11]; refine Z _ _ ?_; clear Z Y)
  refine S.nil ?_
  simp only [ze, reduceIte, Nat.reduceEqDiff, Nat.reduceLT, Nat.reduceLeDiff, Nat.reduceAdd, reduceCtorEq, Nat.reduceMul, e0, e11]
  apply_assumption
  refine AW.cond (b := decide (i < l.length)) (by simp [ev]) (fun hc => ?_) (fun hc => ?_)
  ·refine AW.skip ?_
   simp only [zs, reduceIte, Nat.reduceEqDiff, Nat.reduceLT, Nat.reduceLeDiff, Nat.reduceAdd, reduceCtorEq, Nat.reduceMul]
   apply_assumption
   have hi : i < l.length := by simpa using hc
   have hg := getD_map (f := encAttr) hi
   have hd : l.drop i = l[i] :: l.drop (i + 1) := List.drop_eq_getElem_cons hi
   have hmem := hl _ (List.getElem_mem hi)
   generalize ha : l[i] = a at hg hd hmem
   obtain ⟨hn1, hn2⟩ := hmem
   refine AW.seq_k fun K9 h9 => ?_
   refine AW.block ?_   -- 1
   refine AW.seq_k fun K10 h10 => ?_
   refine AW.seq_k fun K11 h11 => ?_
   refine AW.reg0 ?_
   iterate 5 (refine S.g rfl rfl fun Y Z => ?_; simp only [zz, reduceIte, Nat.reduceEqDiff, Nat.reduceLT, Nat.reduceLeDiff, Nat.reduceAdd, reduceCtorEq, Nat.reduceMul, sl34, el34, ok42, sz42, ag42, of42_0, ok9, sz9, ag9, e0, e11, hi, hg, encAttr]; refine Z _ _ ?_; clear Z Y)
   (refine S.g rfl rfl fun Y Z => ?_; simp only [zz, reduceIte, Nat.reduceEqDiff, Nat.reduceLT, Nat.reduceLeDiff, Nat.reduceAdd, reduceCtorEq, Nat.reduceMul, e0, e11, hi, hg, encAttr]; refine PCalls.eqto (rname_spec _ (by assumption)) ?_ <;> (refine Z _ _ ?_; clear Z Y))
   (refine S.g rfl rfl fun Y Z => ?_; simp only [zz, reduceIte, Nat.reduceEqDiff, Nat.reduceAdd, e0, e11, hi, hg, encAttr]; refine Z _ _ ?_; clear Z Y)
   refine S.nil ?_
   simp only [ze, reduceIte, Nat.reduceEqDiff, Nat.reduceLT, Nat.reduceLeDiff, Nat.reduceAdd, reduceCtorEq, Nat.reduceMul, e0, e11, hi, hg, encAttr]
   apply_assumption
   refine AW.cond (b := !isName a.name) (by simp [ev]) (fun hc => ?_) (fun hc => ?_)
   ·refine AW.seq_k fun K12 h12 => ?_
    refine AW.reg0 ?_
    (refine S.g rfl rfl fun Y Z => ?_; simp only [zz, reduceIte, Nat.reduceEqDiff, Nat.reduceAdd]; refine Z _ _ ?_; clear Z Y)
    refine S.nil ?_
    simp only [ze, reduceIte, Nat.reduceEqDiff, Nat.reduceLT, Nat.reduceLeDiff, Nat.reduceAdd, reduceCtorEq, Nat.reduceMul]
    apply_assumption
    refine AW.ret ?_
    simp only [zs, reduceIte, Nat.reduceEqDiff, Nat.reduceLT, Nat.reduceLeDiff, Nat.reduceAdd, reduceCtorEq, Nat.reduceMul]
    have hx : isName a.name = false := by simpa using hc
    have h8 : ¬ 8 < l.length := by omega
    simp [attrsErr, h8, hp, hd, attrsFrom, hx]
   ·refine AW.skip ?_
    simp only [zs, reduceIte, Nat.reduceEqDiff, Nat.reduceLT, Nat.reduceLeDiff, Nat.reduceAdd, reduceCtorEq, Nat.reduceMul]
    apply_assumption
    have hx : isName a.name = true := by simpa using hc
    refine AW.seq_k fun K13 h13 => ?_
    refine AW.seq_k fun K14 h14 => ?_
    refine AW.reg0 ?_
    iterate 5 (refine S.g rfl rfl fun Y Z => ?_; simp only [zz, reduceIte, Nat.reduceEqDiff, Nat.reduceLT, Nat.reduceLeDiff, Nat.reduceAdd, reduceCtorEq, Nat.reduceMul, sl34, el34, ok42, sz42, ag42, of42_1, ok40, sz40, ag40, e0, e11, hi, hg, encAttr]; refine Z _ _ ?_; clear Z Y)
    (refine S.g rfl rfl fun Y Z => ?_; simp only [zz, reduceIte, Nat.reduceEqDiff, Nat.reduceLT, Nat.reduceLeDiff, Nat.reduceAdd, reduceCtorEq, Nat.reduceMul, e0, e11, hi, hg, encAttr]; refine PCalls.eqto (rcheck_val _) ?_ <;> (refine Z _ _ ?_; clear Z Y))
    (refine S.g rfl rfl fun Y Z => ?_; simp only [zz, reduceIte, Nat.reduceEqDiff, Nat.reduceAdd, e0, e11, hi, hg, encAttr]; refine Z _ _ ?_; clear Z Y)
    refine S.nil ?_
    simp only [ze, reduceIte, Nat.reduceEqDiff, Nat.reduceLT, Nat.reduceLeDiff, Nat.reduceAdd, reduceCtorEq, Nat.reduceMul, e0, e11, hi, hg, encAttr]
    apply_assumption
    refine AW.seq_k fun K15 h15 => ?_
    refine AW.reg0 ?_
    iterate 2 (refine S.g rfl rfl fun Y Z => ?_; simp only [zz, reduceIte, Nat.reduceEqDiff, Nat.reduceAdd]; refine Z _ _ ?_; clear Z Y)
    refine S.nil ?_
    simp only [ze, reduceIte, Nat.reduceEqDiff, Nat.reduceLT, Nat.reduceLeDiff, Nat.reduceAdd, reduceCtorEq, Nat.reduceMul]
    apply_assumption
    refine AW.cond (b := valErr a.v != 0) (by simp [ev]) (fun hc => ?_) (fun hc => ?_)
    ·refine AW.seq_k fun K16 h16 => ?_
     refine AW.reg0 ?_
     iterate 2 (refine S.g rfl rfl fun Y Z => ?_; simp only [zz, reduceIte, Nat.reduceEqDiff, Nat.reduceAdd]; refine Z _ _ ?_; clear Z Y)
     refine S.nil ?_
     simp only [ze, reduceIte, Nat.reduceEqDiff, Nat.reduceLT, Nat.reduceLeDiff, Nat.reduceAdd, reduceCtorEq, Nat.reduceMul]
     apply_assumption
     refine AW.ret ?_
     simp only [zs, reduceIte, Nat.reduceEqDiff, Nat.reduceLT, Nat.reduceLeDiff, Nat.reduceAdd, reduceCtorEq, Nat.reduceMul]
     have hy : valErr a.v ≠ 0 := by simpa using hc
     have h8 : ¬ 8 < l.length := by omega
     simp [attrsErr, h8, hp, hd, attrsFrom, hx, hy]
    ·refine AW.skip ?_
     simp only [zs, reduceIte, Nat.reduceEqDiff, Nat.reduceLT, Nat.reduceLeDiff, Nat.reduceAdd, reduceCtorEq, Nat.reduceMul]
     apply_assumption
     have hy : valErr a.v = 0 := by simpa using hc
     refine AW.seq_j (fun s' σ' => σ' = Hp.empty ∧ s'.t 0 = .sl (l.map encAttr) ∧ s'.t 3 = .c (.int .i64 i) ∧
      s'.t 45 = .c (.bool ((if i = 0 then none else (l[i-1]?).map (·.name)).any (leS a.name ·)))) ?_ ?_
     ·clear hp hd
      by_cases hi0 : i = 0
      ·subst hi0
       refine AW.draw (T := { sd := fun _ => false }) (fun _ _ h => by cases h) mixedO [(0, 0), (1, 0), (2, 0), (3, 0), (4, 0), (5, 0), (6, 0), (8, 0), (9, 0), (10, 0), (11, 0), (12, 0), (7, 1), (13, 1), (14, 0), (15, 0)] rfl (by kernel_rfl) (by kernel_rfl) ?_
       (refine D.g rfl trivial rfl rfl fun Y Z => ?_; simp only [zz, reduceIte, Nat.reduceEqDiff, Nat.reduceAdd, e0, e11]; refine Z _ _ ?_; clear Z Y)
       (refine D.g rfl trivial rfl rfl fun Y Z => ?_; simp only [zz, reduceIte, Nat.reduceEqDiff, Nat.reduceLT, Nat.reduceLeDiff, Nat.reduceAdd, reduceCtorEq, Nat.reduceMul, e0, e11]; refine S.bool fun b a31 => ?_; cases b <;> (try (exfalso; first | exact Bool.noConfusion a31 | (have h := of_decide_eq_true a31; omega) | (have h := of_decide_eq_false a31; omega))) <;> (refine Z _ _ ?_; clear Z Y))
       (refine D.g rfl trivial rfl rfl fun Y Z => ?_; simp only [zz, reduceIte, Nat.reduceEqDiff, Nat.reduceAdd, e0, e11]; refine Z _ _ ?_; clear Z Y)
       iterate 9 (first | (refine D.y rfl trivial rfl rfl rfl rfl fun Y Z => ?_; simp only [zz, reduceIte, Nat.reduceEqDiff, Nat.reduceLT, Nat.reduceLeDiff, Nat.reduceAdd, reduceCtorEq, Nat.reduceMul, sl34, el34, ok42, sz42, ag42, of42_0, e0, e11]; refine Z _ _ ?_; clear Z Y) | ((first | refine D.x rfl (fun h => by cases h) rfl rfl rfl rfl fun Y Z => ?_ | refine D.u rfl (fun h => by cases h) rfl rfl rfl rfl fun Y Z => ?_); simp only [ze, reduceIte, Nat.reduceEqDiff]; refine Z _ _ ?_; clear Z Y))
       iterate 2 (first | (refine D.y rfl (by first | rfl | (simp only [stC, ze, reduceIte, Nat.reduceEqDiff, e0, e11]; done) | (simp only [stC, ze, reduceIte, Nat.reduceEqDiff, e0, e11]; rfl)) rfl rfl rfl rfl fun Y Z => ?_; simp only [zz, reduceIte, Nat.reduceEqDiff, Nat.reduceLT, Nat.reduceLeDiff, Nat.reduceAdd, reduceCtorEq, Nat.reduceMul, ok9, sz9, ag9, e0, e11]; refine Z _ _ ?_; clear Z Y) | ((first | refine D.x rfl (fun _ => rfl) rfl rfl rfl rfl fun Y Z => ?_ | refine D.u rfl (fun _ => rfl) rfl rfl rfl rfl fun Y Z => ?_); simp only [ze, reduceIte, Nat.reduceEqDiff]; refine Z _ _ ?_; clear Z Y))
       (first | (refine D.y rfl trivial rfl rfl rfl rfl fun Y Z => ?_; simp only [zz, reduceIte, Nat.reduceEqDiff, Nat.reduceAdd, e0, e11]; refine Z _ _ ?_; clear Z Y) | ((first | refine D.x rfl (fun h => by cases h) rfl rfl rfl rfl fun Y Z => ?_ | refine D.u rfl (fun h => by cases h) rfl rfl rfl rfl fun Y Z => ?_); simp only [ze, reduceIte, Nat.reduceEqDiff]; refine Z _ _ ?_; clear Z Y))
       (refine D.g rfl trivial rfl rfl fun Y Z => ?_; simp only [zz, reduceIte, Nat.reduceEqDiff, Nat.reduceAdd, e0, e11]; refine Z _ _ ?_; clear Z Y)
       refine D.nil ?_
       simp only [ze, reduceIte, Nat.reduceEqDiff, Nat.reduceLT, Nat.reduceLeDiff, Nat.reduceAdd, reduceCtorEq, Nat.reduceMul, e0, e11]
       simp
      ·have hi1 : i - 1 < l.length := by omega
       have hg1 := getD_map (f := encAttr) hi1
       have hw : IntKind.i64.wrap ((i : Int) - 1) = ((i - 1 : Nat) : Int) := by rw [wrap_small _ (by omega) (by omega)]; omega
       refine AW.draw (T := { sd := fun _ => false }) (fun _ _ h => by cases h) mixedO [(0, 0), (1, 0), (2, 0), (3, 0), (4, 0), (5, 0), (6, 0), (8, 0), (9, 0), (10, 0), (11, 0), (12, 0), (7, 1), (13, 1), (14, 0), (15, 0)] rfl (by kernel_rfl) (by kernel_rfl) ?_
       (refine D.g rfl trivial rfl rfl fun Y Z => ?_; simp only [zz, reduceIte, Nat.reduceEqDiff, Nat.reduceAdd, e0, e11, hi, hg, hi1, hg1, encAttr, hw]; refine Z _ _ ?_; clear Z Y)
       (refine D.g rfl trivial rfl rfl fun Y Z => ?_; simp only [zz, reduceIte, Nat.reduceEqDiff, Nat.reduceLT, Nat.reduceLeDiff, Nat.reduceAdd, reduceCtorEq, Nat.reduceMul, e0, e11, hi, hg, hi1, hg1, encAttr, hw]; refine S.bool fun b a31 => ?_; cases b <;> (try (exfalso; first | exact Bool.noConfusion a31 | (have h := of_decide_eq_true a31; omega) | (have h := of_decide_eq_false a31; omega))) <;> (refine Z _ _ ?_; clear Z Y))
       (refine D.g rfl trivial rfl rfl fun Y Z => ?_; simp only [zz, reduceIte, Nat.reduceEqDiff, Nat.reduceAdd, e0, e11, hi, hg, hi1, hg1, encAttr, hw]; refine Z _ _ ?_; clear Z Y)
       iterate 9 (first | (refine D.y rfl trivial rfl rfl rfl rfl fun Y Z => ?_; simp only [zz, reduceIte, Nat.reduceEqDiff, Nat.reduceLT, Nat.reduceLeDiff, Nat.reduceAdd, reduceCtorEq, Nat.reduceMul, sl34, el34, ok42, sz42, ag42, of42_0, e0, e11, hi, hg, hi1, hg1, encAttr, hw]; refine Z _ _ ?_; clear Z Y) | ((first | refine D.x rfl (fun h => by cases h) rfl rfl rfl rfl fun Y Z => ?_ | refine D.u rfl (fun h => by cases h) rfl rfl rfl rfl fun Y Z => ?_); simp only [ze, reduceIte, Nat.reduceEqDiff]; refine Z _ _ ?_; clear Z Y))
       iterate 2 (first | (refine D.y rfl (by first | rfl | (simp only [stC, ze, reduceIte, Nat.reduceEqDiff, e0, e11, hi, hg, hi1, hg1, encAttr, hw]; done) | (simp only [stC, ze, reduceIte, Nat.reduceEqDiff, e0, e11, hi, hg, hi1, hg1, encAttr, hw]; rfl)) rfl rfl rfl rfl fun Y Z => ?_; simp only [zz, reduceIte, Nat.reduceEqDiff, Nat.reduceLT, Nat.reduceLeDiff, Nat.reduceAdd, reduceCtorEq, Nat.reduceMul, ok9, sz9, ag9, e0, e11, hi, hg, hi1, hg1, encAttr, hw]; refine Z _ _ ?_; clear Z Y) | ((first | refine D.x rfl (fun _ => rfl) rfl rfl rfl rfl fun Y Z => ?_ | refine D.u rfl (fun _ => rfl) rfl rfl rfl rfl fun Y Z => ?_); simp only [ze, reduceIte, Nat.reduceEqDiff]; refine Z _ _ ?_; clear Z Y))
       (first | (refine D.y rfl trivial rfl rfl rfl rfl fun Y Z => ?_; simp only [zz, reduceIte, Nat.reduceEqDiff, Nat.reduceAdd, e0, e11, hi, hg, hi1, hg1, encAttr, hw]; refine Z _ _ ?_; clear Z Y) | ((first | refine D.x rfl (fun h => by cases h) rfl rfl rfl rfl fun Y Z => ?_ | refine D.u rfl (fun h => by cases h) rfl rfl rfl rfl fun Y Z => ?_); simp only [ze, reduceIte, Nat.reduceEqDiff]; refine Z _ _ ?_; clear Z Y))
       (refine D.g rfl trivial rfl rfl fun Y Z => ?_; simp only [zz, reduceIte, Nat.reduceEqDiff, Nat.reduceAdd, e0, e11, hi, hg, hi1, hg1, encAttr, hw]; refine Z _ _ ?_; clear Z Y)
       refine D.nil ?_
       simp only [ze, reduceIte, Nat.reduceEqDiff, Nat.reduceLT, Nat.reduceLeDiff, Nat.reduceAdd, reduceCtorEq, Nat.reduceMul, e0, e11, hi, hg, hi1, hg1, encAttr, hw]
       simp [hi0, hi1, leS]
     rintro s1 σ1 ⟨rfl, f0, f11, f38⟩
     refine AW.cond (b := _) f38 (fun hc => ?_) (fun hc => ?_)
     ·refine AW.seq_k fun K17 h17 => ?_
      refine AW.reg0 ?_
      (refine S.g rfl rfl fun Y Z => ?_; simp only [zz, reduceIte, Nat.reduceEqDiff, Nat.reduceAdd]; refine Z _ _ ?_; clear Z Y)
      refine S.nil ?_
      simp only [ze, reduceIte, Nat.reduceEqDiff, Nat.reduceLT, Nat.reduceLeDiff, Nat.reduceAdd, reduceCtorEq, Nat.reduceMul]
      apply_assumption
      refine AW.ret ?_
      simp only [zs, reduceIte, Nat.reduceEqDiff, Nat.reduceLT, Nat.reduceLeDiff, Nat.reduceAdd, reduceCtorEq, Nat.reduceMul]
      have h8 : ¬ 8 < l.length := by omega
      simp [attrsErr, h8, hp, hd, attrsFrom, hx, hy, hc]
     ·refine AW.skip ?_
      simp only [zs, reduceIte, Nat.reduceEqDiff, Nat.reduceLT, Nat.reduceLeDiff, Nat.reduceAdd, reduceCtorEq, Nat.reduceMul]
      apply_assumption
      have hw : IntKind.i64.wrap ((i : Int) + 1) = ((i + 1 : Nat) : Int) := by rw [wrap_small _ (by omega) (by omega)]; rfl
      refine AW.reg0 ?_
      iterate 3 (refine S.g rfl rfl fun Y Z => ?_; simp only [zz, reduceIte, Nat.reduceEqDiff, Nat.reduceAdd, f11, hw]; refine Z _ _ ?_; clear Z Y)
      refine S.nil ?_
      simp only [ze, reduceIte, Nat.reduceEqDiff, Nat.reduceLT, Nat.reduceLeDiff, Nat.reduceAdd, reduceCtorEq, Nat.reduceMul, f11, hw]
      refine ⟨m - 1, by omega, i + 1, by omega, f0, rfl, ?_⟩
      rw [hp, hd, attrsFrom]
      simp [hx, hy, hc, ha, hi]
  ·refine AW.exit ?_
   simp only [zs, reduceIte, Nat.reduceEqDiff, Nat.reduceLT, Nat.reduceLeDiff, Nat.reduceAdd, reduceCtorEq, Nat.reduceMul]
   -- EXIT 0
   apply_assumption
   refine AW.seq_k fun K18 h18 => ?_
   refine AW.reg0 ?_
   (refine S.g rfl rfl fun Y Z => ?_; simp only [zz, reduceIte, Nat.reduceEqDiff, Nat.reduceAdd]; refine Z _ _ ?_; clear Z Y)
   refine S.nil ?_
   simp only [ze, reduceIte, Nat.reduceEqDiff, Nat.reduceLT, Nat.reduceLeDiff, Nat.reduceAdd, reduceCtorEq, Nat.reduceMul]
   apply_assumption
   refine AW.ret ?_
   simp only [zs, reduceIte, Nat.reduceEqDiff, Nat.reduceLT, Nat.reduceLeDiff, Nat.reduceAdd, reduceCtorEq, Nat.reduceMul]
   have hi : l.length ≤ i := by simpa using hc
   have h8 : ¬ 8 < l.length := by omega
   simp [attrsErr, h8, hp, List.drop_of_length_le hi, attrsFrom]
theorem rcheck_ev (e : Ev) (he : okE e) : PCalls Tryz.prog 76 [.agg (encEv e)] (fun r => r = .c (.int .i64 (evErr e))) := by
 have h1 := he.type
 have h2 := he.attrs
 refine PCalls.intro Tryz.call76 Tryz.func76 rfl Tryz.ntmps76 Tryz.results76 (by simp) ?_
 refine AW.seq_k fun K1 h1 => ?_
 all_goals refine AW.reg0 ?_
 all_goals iterate 2 (refine S.g rfl rfl fun Y Z => ?_; simp only [zz, reduceIte, Nat.reduceEqDiff, Nat.reduceLeDiff, Nat.reduceAdd, ok36, sz36, ag36, encEv]; refine Z _ _ ?_; clear Z Y)
 all_goals refine S.nil ?_
 all_goals simp only [ze, reduceIte, Nat.reduceEqDiff, Nat.reduceLeDiff, Nat.reduceAdd, encEv]
 all_goals apply_assumption
 refine AW.seq_k fun K2 h2 => ?_
 refine AW.seq_j (fun s' σ' => σ' = Hp.empty ∧ s'.l 1 = some (encEv e) ∧ s'.t 1 = .lp 1 0 ∧ s'.t 31 = .c (.bool (decide (e.src < 0 ∨ 16 ≤ e.src ∨ timeOk e.seq = false ∨ timeOk e.time = false ∨ isName e.type = false)))) ?_ ?_
 ·skip
  all_goals refine AW.reg0 ?_
  all_goals iterate 3 (refine S.g rfl rfl fun Y Z => ?_; simp only [zz, reduceIte, Nat.reduceEqDiff, Nat.reduceLeDiff, Nat.reduceAdd, of36_0, of33_0, ok3, sz3, ag3, encEv]; refine Z _ _ ?_; clear Z Y)
  all_goals (refine S.g rfl rfl fun Y Z => ?_; simp only [zz, reduceIte, Nat.reduceEqDiff, Nat.reduceLeDiff, Nat.reduceAdd, encEv]; refine S.bool fun b a6 => ?_; cases b <;> (try (exfalso; first | exact Bool.noConfusion a6 | (have h := of_decide_eq_true a6; omega) | (have h := of_decide_eq_false a6; omega))) <;> (refine Z _ _ ?_; clear Z Y))
  all_goals (refine S.g rfl rfl fun Y Z => ?_; simp only [zz, reduceIte, Nat.reduceEqDiff, Nat.reduceAdd, encEv]; refine Z _ _ ?_; clear Z Y)
  all_goals iterate 3 (first | (refine S.y rfl rfl rfl rfl fun Y Z => ?_; simp only [zz, reduceIte, Nat.reduceEqDiff, Nat.reduceLeDiff, Nat.reduceAdd, of36_0, of33_0, ok3, sz3, ag3, encEv]; refine Z _ _ ?_; clear Z Y) | ((first | refine S.x rfl rfl rfl rfl fun Y Z => ?_ | refine S.u rfl rfl rfl rfl fun Y Z => ?_); simp only [ze, reduceIte, Nat.reduceEqDiff]; refine Z _ _ ?_; clear Z Y))
  all_goals (first | (refine S.y rfl rfl rfl rfl fun Y Z => ?_; simp only [zz, reduceIte, Nat.reduceEqDiff, Nat.reduceLeDiff, Nat.reduceAdd, encEv]; refine S.bool fun b a11 => ?_; cases b <;> (try (exfalso; first | exact Bool.noConfusion a11 | (have h := of_decide_eq_true a11; omega) | (have h := of_decide_eq_false a11; omega))) <;> (refine Z _ _ ?_; clear Z Y)) | ((first | refine S.x rfl rfl rfl rfl fun Y Z => ?_ | refine S.u rfl rfl rfl rfl fun Y Z => ?_); simp only [ze, reduceIte, Nat.reduceEqDiff]; refine Z _ _ ?_; clear Z Y))
  all_goals iterate 2 (refine S.g rfl rfl fun Y Z => ?_; simp only [zz, reduceIte, Nat.reduceEqDiff, Nat.reduceAdd, encEv]; refine Z _ _ ?_; clear Z Y)
  all_goals iterate 3 (first | (refine S.y rfl rfl rfl rfl fun Y Z => ?_; simp only [zz, reduceIte, Nat.reduceEqDiff, Nat.reduceLeDiff, Nat.reduceAdd, of36_0, of33_1, ok2, sz2, ag2, encEv]; refine Z _ _ ?_; clear Z Y) | ((first | refine S.x rfl rfl rfl rfl fun Y Z => ?_ | refine S.u rfl rfl rfl rfl fun Y Z => ?_); simp only [ze, reduceIte, Nat.reduceEqDiff]; refine Z _ _ ?_; clear Z Y))
  all_goals (first | (refine S.y rfl rfl rfl rfl fun Y Z => ?_; simp only [zz, reduceIte, Nat.reduceEqDiff, Nat.reduceLeDiff, Nat.reduceAdd, encEv]; refine PCalls.eqto (rtime_spec _) ?_; refine S.bool fun b a17 => ?_; cases b <;> (try (exfalso; first | exact Bool.noConfusion a17 | (have h := of_decide_eq_true a17; omega) | (have h := of_decide_eq_false a17; omega))) <;> (refine Z _ _ ?_; clear Z Y)) | ((first | refine S.x rfl rfl rfl rfl fun Y Z => ?_ | refine S.u rfl rfl rfl rfl fun Y Z => ?_); simp only [ze, reduceIte, Nat.reduceEqDiff]; refine Z _ _ ?_; clear Z Y))
  all_goals (first | (refine S.y rfl rfl rfl rfl fun Y Z => ?_; simp only [zz, reduceIte, Nat.reduceEqDiff, Nat.reduceAdd, encEv]; refine Z _ _ ?_; clear Z Y) | ((first | refine S.x rfl rfl rfl rfl fun Y Z => ?_ | refine S.u rfl rfl rfl rfl fun Y Z => ?_); simp only [ze, reduceIte, Nat.reduceEqDiff]; refine Z _ _ ?_; clear Z Y))
  all_goals iterate 2 (refine S.g rfl rfl fun Y Z => ?_; simp only [zz, reduceIte, Nat.reduceEqDiff, Nat.reduceAdd, encEv]; refine Z _ _ ?_; clear Z Y)
  all_goals iterate 2 (first | (refine S.y rfl rfl rfl rfl fun Y Z => ?_; simp only [zz, reduceIte, Nat.reduceEqDiff, Nat.reduceLeDiff, Nat.reduceAdd, of36_1, ok2, sz2, ag2, encEv]; refine Z _ _ ?_; clear Z Y) | ((first | refine S.x rfl rfl rfl rfl fun Y Z => ?_ | refine S.u rfl rfl rfl rfl fun Y Z => ?_); simp only [ze, reduceIte, Nat.reduceEqDiff]; refine Z _ _ ?_; clear Z Y))
  all_goals (first | (refine S.y rfl rfl rfl rfl fun Y Z => ?_; simp only [zz, reduceIte, Nat.reduceEqDiff, Nat.reduceLeDiff, Nat.reduceAdd, encEv]; refine PCalls.eqto (rtime_spec _) ?_; refine S.bool fun b a23 => ?_; cases b <;> (try (exfalso; first | exact Bool.noConfusion a23 | (have h := of_decide_eq_true a23; omega) | (have h := of_decide_eq_false a23; omega))) <;> (refine Z _ _ ?_; clear Z Y)) | ((first | refine S.x rfl rfl rfl rfl fun Y Z => ?_ | refine S.u rfl rfl rfl rfl fun Y Z => ?_); simp only [ze, reduceIte, Nat.reduceEqDiff]; refine Z _ _ ?_; clear Z Y))
  all_goals (first | (refine S.y rfl rfl rfl rfl fun Y Z => ?_; simp only [zz, reduceIte, Nat.reduceEqDiff, Nat.reduceAdd, encEv]; refine Z _ _ ?_; clear Z Y) | ((first | refine S.x rfl rfl rfl rfl fun Y Z => ?_ | refine S.u rfl rfl rfl rfl fun Y Z => ?_); simp only [ze, reduceIte, Nat.reduceEqDiff]; refine Z _ _ ?_; clear Z Y))
  all_goals iterate 2 (refine S.g rfl rfl fun Y Z => ?_; simp only [zz, reduceIte, Nat.reduceEqDiff, Nat.reduceAdd, encEv]; refine Z _ _ ?_; clear Z Y)
  all_goals iterate 2 (first | (refine S.y rfl rfl rfl rfl fun Y Z => ?_; simp only [zz, reduceIte, Nat.reduceEqDiff, Nat.reduceLeDiff, Nat.reduceAdd, of36_2, ok9, sz9, ag9, encEv]; refine Z _ _ ?_; clear Z Y) | ((first | refine S.x rfl rfl rfl rfl fun Y Z => ?_ | refine S.u rfl rfl rfl rfl fun Y Z => ?_); simp only [ze, reduceIte, Nat.reduceEqDiff]; refine Z _ _ ?_; clear Z Y))
  all_goals (first | (refine S.y rfl rfl rfl rfl fun Y Z => ?_; simp only [zz, reduceIte, Nat.reduceEqDiff, Nat.reduceLeDiff, Nat.reduceAdd, encEv]; refine PCalls.eqto (rname_spec _ (by assumption)) ?_ <;> (refine Z _ _ ?_; clear Z Y)) | ((first | refine S.x rfl rfl rfl rfl fun Y Z => ?_ | refine S.u rfl rfl rfl rfl fun Y Z => ?_); simp only [ze, reduceIte, Nat.reduceEqDiff]; refine Z _ _ ?_; clear Z Y))
  all_goals (first | (refine S.y rfl rfl rfl rfl fun Y Z => ?_; simp only [zz, reduceIte, Nat.reduceEqDiff, Nat.reduceAdd, encEv]; refine Z _ _ ?_; clear Z Y) | ((first | refine S.x rfl rfl rfl rfl fun Y Z => ?_ | refine S.u rfl rfl rfl rfl fun Y Z => ?_); simp only [ze, reduceIte, Nat.reduceEqDiff]; refine Z _ _ ?_; clear Z Y))
  all_goals (refine S.g rfl rfl fun Y Z => ?_; simp only [zz, reduceIte, Nat.reduceEqDiff, Nat.reduceAdd, encEv]; refine Z _ _ ?_; clear Z Y)
  all_goals refine S.nil ?_
  all_goals simp only [ze, reduceIte, Nat.reduceEqDiff, Nat.reduceLeDiff, Nat.reduceAdd, encEv]
  all_goals simp_all
  have k1 : ¬ e.src < 0 := by omega
  have k2 : ¬ 16 ≤ e.src := by omega
  simp [k1, k2]
 rintro s σ ⟨rfl, l1, e1, e31⟩
 rw [encEv] at l1
 refine AW.cond (b := _) e31 (fun hc => ?_) (fun hc => ?_)
 ·refine AW.seq_k fun K3 h3 => ?_
  all_goals refine AW.reg0 ?_
  all_goals (refine S.g rfl rfl fun Y Z => ?_; simp only [zz, reduceIte, Nat.reduceEqDiff, Nat.reduceAdd]; refine Z _ _ ?_; clear Z Y)
  all_goals refine S.nil ?_
  all_goals simp only [ze, reduceIte, Nat.reduceEqDiff, Nat.reduceLeDiff, Nat.reduceAdd]
  all_goals apply_assumption
  refine AW.ret ?_
  all_goals simp only [zs, reduceIte, Nat.reduceEqDiff, Nat.reduceLeDiff, Nat.reduceAdd]
  have := of_decide_eq_true hc
  simp [evErr, this]
 ·refine AW.skip ?_
  all_goals simp only [zs, reduceIte, Nat.reduceEqDiff, Nat.reduceLeDiff, Nat.reduceAdd]
  all_goals apply_assumption
  refine AW.seq_k fun K4 h4 => ?_
  all_goals refine AW.reg0 ?_
  all_goals iterate 2 (refine S.g rfl rfl fun Y Z => ?_; simp only [zz, reduceIte, Nat.reduceEqDiff, Nat.reduceLeDiff, Nat.reduceAdd, of36_3, ok34, sz34, ag34, e1, l1]; refine Z _ _ ?_; clear Z Y)
  all_goals (refine S.g rfl rfl fun Y Z => ?_; simp only [zz, reduceIte, Nat.reduceEqDiff, Nat.reduceLeDiff, Nat.reduceAdd, e1, l1]; refine PCalls.eqto (rcheck_attrs _ (by assumption)) ?_ <;> (refine Z _ _ ?_; clear Z Y))
  all_goals (refine S.g rfl rfl fun Y Z => ?_; simp only [zz, reduceIte, Nat.reduceEqDiff, Nat.reduceAdd, e1, l1]; refine Z _ _ ?_; clear Z Y)
  all_goals refine S.nil ?_
  all_goals simp only [ze, reduceIte, Nat.reduceEqDiff, Nat.reduceLeDiff, Nat.reduceAdd, e1, l1]
  all_goals apply_assumption
  refine AW.ret ?_
  all_goals simp only [zs, reduceIte, Nat.reduceEqDiff, Nat.reduceLeDiff, Nat.reduceAdd]
  have := of_decide_eq_false hc
  simp only [evErr, if_neg this]
end Go.Abs.M
