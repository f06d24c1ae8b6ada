import Derived.Test.YtmhamgllanihoaaRsd
import Derived.Laws.Append
import Derived.RangeFuncCalls
namespace Go.Abs
open Go
section
variable {P : Program} {T : Tab} {B : Base} {n : Nat} {cx cx' : Cx} {s : St} {σ σ' : Hp} {a : Act} {w w' : World} {K : St → Hp → Prop}
inductive Tf where
  | nil
  | st (i k : Nat) (t : Tf)
  | fork (i : Nat) (a : Tf) (j : Nat) (b : Tf)
  | fork3 (i : Nat) (a : Tf) (j : Nat) (b : Tf) (k : Nat) (c : Tf)
def Tf.len : Tf → Nat
  | .nil => 0
  | .st _ _ t => t.len + 1
  | .fork _ a _ _ => a.len + 1
  | .fork3 _ a _ _ _ _ => a.len + 1
def semF (P : Program) (T : Tab) (n : Nat) (ops : List Oper) (ds : List (Option Nat)) : Tf → (St → Hp → Prop) → St → Hp → Prop
  | .nil, K => K
  | .st i k r, K => one P T n ops ds i k (semF P T n ops ds r K)
  | .fork i a j b, K => fun s σ => one P T n ops ds i 2 (semF P T n ops ds a K) s σ ∧ one P T n ops ds j 2 (semF P T n ops ds b K) s σ
  | .fork3 i a j b k c, K => fun s σ => one P T n ops ds i 2 (semF P T n ops ds a K) s σ ∧ one P T n ops ds j 2 (semF P T n ops ds b K) s σ ∧ one P T n ops ds k 2 (semF P T n ops ds c K) s σ
def schedG (P : Program) (ops : Array Oper) : Tf → Bool → Array Bool → Bool
  | .nil, _, listed => (Region.ready .any ops listed).isEmpty
  | .st i k r, early, listed =>
    (match k with
     | 0 => ((ops[i]?).map fun o => pureOp P o.op).getD false && (Region.ready .any ops listed).contains i && Region.free .any ops listed i
     | 1 => early && ((ops[i]?).map fun o => isLoad o.op).getD false && (Region.ready .any ops listed).contains i && Region.free .any ops listed i
     | _ => Region.ready .any ops listed == [i]) &&
    schedG P ops r early (listed.setIfInBounds i true)
  | .fork i a j b, early, listed => Region.ready .any ops listed == [i, j] && a.len == b.len && schedG P ops a early (listed.setIfInBounds i true) && schedG P ops b early (listed.setIfInBounds j true)
  | .fork3 i a j b k c, early, listed => Region.ready .any ops listed == [i, j, k] && (a.len == b.len && a.len == c.len) && schedG P ops a early (listed.setIfInBounds i true) && schedG P ops b early (listed.setIfInBounds j true) && schedG P ops c early (listed.setIfInBounds k true)
/-- The same look, its list written out at each step, and read side by side with the operations. -/
def schedH (P : Program) (ops : List Oper) : Tf → Bool → List Bool → Bool
  | .nil, _, l => (rdy ops l).isEmpty
  | .st i k r, early, l =>
    (match k with
     | 0 => ((ops[i]?).map fun o => pureOp P o.op).getD false && (rdy ops l).contains i && fre ops l i
     | 1 => early && ((ops[i]?).map fun o => isLoad o.op).getD false && (rdy ops l).contains i && fre ops l i
     | _ => rdy ops l == [i]) &&
    forceL (setL l i) fun m => schedH P ops r early m
  | .fork i a j b, early, l => rdy ops l == [i, j] && a.len == b.len && (forceL (setL l i) fun m => schedH P ops a early m) && (forceL (setL l j) fun m => schedH P ops b early m)
  | .fork3 i a j b k c, early, l => rdy ops l == [i, j, k] && (a.len == b.len && a.len == c.len) && (forceL (setL l i) fun m => schedH P ops a early m) && (forceL (setL l j) fun m => schedH P ops b early m) && (forceL (setL l k) fun m => schedH P ops c early m)
theorem schedH_eq (P : Program) (ops : List Oper) : ∀ (t : Tf) (early : Bool) (l : List Bool), l.length = ops.length → schedH P ops t early l = schedG P ⟨ops⟩ t early ⟨l⟩
  | .nil, _, _, h => by simp only [schedH, schedG, rdy_eq h]
  | .st i k r, early, l, h => by
    simp only [schedH, schedG, forceL_eq, schedH_eq P ops r early (setL l i) ((setL_len l i).trans h), rdy_eq h, fre_eq h, List.getElem?_toArray, List.setIfInBounds_toArray]
    rw [setL_eq]
  | .fork i a j b, early, l, h => by
    simp only [schedH, schedG, forceL_eq, schedH_eq P ops a early (setL l i) ((setL_len l i).trans h), schedH_eq P ops b early (setL l j) ((setL_len l j).trans h), rdy_eq h, List.setIfInBounds_toArray]
    rw [setL_eq, setL_eq]
  | .fork3 i a j b k c, early, l, h => by
    simp only [schedH, schedG, forceL_eq, schedH_eq P ops a early (setL l i) ((setL_len l i).trans h), schedH_eq P ops b early (setL l j) ((setL_len l j).trans h), schedH_eq P ops c early (setL l k) ((setL_len l k).trans h), rdy_eq h, List.setIfInBounds_toArray]
    rw [setL_eq, setL_eq, setL_eq]
theorem semF_sound (hT : T.ok P) {ops : Array Oper} (hs : Region.noSelect ops = true) {Q : Act → World → Prop} :
    ∀ (sched : Tf) (early : Bool) (listed : Array Bool) {B : Base} (_hsd : B.sd = T.sd) (_hQ : ∀ a w, KC B n K a w → Q a w) {cx : Cx} {s : St} {σ : Hp} {a : Act} {w : World}, schedG P ops sched early listed = true → SR B n cx s σ a w →
    (early = true → (∀ g, cx.I g → B.still g) ∧ (∀ d cells, T.sd d = true → s.l d = some cells → B.still (cx.L d))) →
    semF P T n ops.toList (ops.toList.map (·.dst)) sched K s σ → wpAnyH P .any ops (onlyN Q) (stillW B) sched.len listed a w
  | .nil, early, listed, B, hsd, hQ, cx, s, σ, a, w, hB, h, he, hk => by
    simp only [schedG, List.isEmpty_iff] at hB
    exact wpAnyH_done hB (hQ a w ⟨cx, s, σ, h, hk⟩) 0
  | .st i k r, early, listed, B, hsd, hQ, cx, s, σ, a, w, hB, h, he, hk => by
    simp only [schedG, Bool.and_eq_true] at hB
    obtain ⟨hB1, hB2⟩ := hB
    simp only [semF, one] at hk
    cases hi : ops.toList[i]? with
    | none => simp [hi] at hk
    | some o =>
      simp only [hi] at hk
      obtain ⟨hd, hst, hk⟩ := hk
      have hi' : ops[i]? = some o := by simpa using hi
      have take : ∀ {v : V} {x : Value}, (Region.wanted o (yielded ops a.tmps) = true ∧ (∀ w', stillW B w' → (execOp a.eval o).run P w' = .ok (.value x) w') ∨ Region.wanted o (yielded ops a.tmps) = false ∧ x = undef) → TR w cx v x →
          semF P T n ops.toList (ops.toList.map (·.dst)) r K (s.putO o.dst v) σ → (Region.ready .any ops listed).contains i = true → Region.free .any ops listed i = true →
          wpAnyH P .any ops (onlyN Q) (stillW B) (Tf.st i k r).len listed a w := fun {v x} hy hv hkr hr hf => by
        have h' := h.putO (dOK_spec hd) hv
        refine wpAnyH_take hi' hs hf hr (fun _ _ _ hq => hq.elim) (v := x) hy h.stillW ?_
        refine semF_sound hT hs r early _ hsd hQ hB2 h' (fun e1 => ?_) hkr
        obtain ⟨h1, h2⟩ := he e1
        refine ⟨h1, fun d cells hsd' hd' => h2 d cells hsd' ?_⟩
        cases hdst : o.dst with
        | none => rw [hdst] at hd'; exact hd'
        | some e => rw [hdst] at hd'; exact hd'
      rcases k with _ | _ | k
      · simp only [hi', Option.map_some, Option.getD_some, Bool.and_eq_true] at hB1
        obtain ⟨⟨hp, hr⟩, hf⟩ := hB1
        rcases gate_wanted (ops := ops) h hk with ⟨hw, hk⟩ | ⟨hw, hk⟩
        · obtain ⟨v, hv, hy⟩ := sem_pure hT hp hk
          obtain ⟨x, hx, ht⟩ := hy h
          exact take (.inl ⟨hw, fun w' _ => hx w'⟩) ht hv hr hf
        · exact take (.inr ⟨hw, rfl⟩) (.v (.c undef)) hk hr hf
      · simp only [hi', Option.map_some, Option.getD_some, Bool.and_eq_true] at hB1
        obtain ⟨⟨⟨hea, hp⟩, hr⟩, hf⟩ := hB1
        obtain ⟨h1, h2⟩ := he hea
        cases ho : o.op <;> simp only [ho, isLoad] at hp hst <;> try (cases hp; done)
        rename_i t x
        have hk2 := gate_and hst hk
        rcases gate_wanted (ops := ops) h hk2 with ⟨hw, hst, hk⟩ | ⟨hw, _, hk⟩
        · unfold semOp at hk
          simp only [ho] at hk
          obtain ⟨c1, c2, c3, hk⟩ := hk
          obtain ⟨v, hv, hy⟩ := qLoad_sound (P := P) (s := s) (σ := σ) c1 c2 c3 hk
          obtain ⟨y, b, off, hp', hyr, ht, hlp, hip⟩ := hy cx w (a.eval x) h.heap h.box (h.tr x)
          have hb : B.still b := by
            cases hx : ev s x with
            | lp d off' =>
              rw [hlp d off' hx]
              have hsd' : T.sd d = true := by simpa [steady, hx] using hst
              have hl : ∃ cells, s.l d = some cells := by
                rw [hx] at hk
                unfold qLoad at hk
                cases hld : s.l d with
                | none => simp [hld] at hk
                | some cells => exact ⟨cells, rfl⟩
              obtain ⟨cells, hl⟩ := hl
              exact h2 d cells hsd' hl
            | ip es i' off' => exact h1 b (hip es i' off' hx)
            | _ => simp [steady, hx] at hst
          refine take (.inl ⟨hw, fun w' hw' => ?_⟩) ht hv hr hf
          have := hyr w' ((hw' b hb).trans (h.stab b hb).symm)
          simp [execOp, ho, this]
        · exact take (.inr ⟨hw, rfl⟩) (.v (.c undef)) hk hr hf
      · have hB1 : Region.ready .any ops listed = [i] := by simpa using hB1
        refine wpAnyH_all (rs := [i]) hB1 (by simp) (fun j hj => ?_)
        have hj : j = i := by simpa using hj
        subst hj
        have next : ∀ a' w', KC B n (semF P T n ops.toList (ops.toList.map (·.dst)) r K) a' w' → stillW B w' ∧ wpAnyH P .any ops (onlyN Q) (stillW B) r.len (listed.setIfInBounds j true) a' w' := fun a' w' ⟨cx', s', σ', h', hk'⟩ =>
          ⟨h'.stillW, wpAnyH_mono (S' := stillW (B.re cx' s'.l T.sd w')) (fun w'' hw g hg => (hw g (.inl hg)).trans (h'.stab g hg)) _ _ _ _
            (semF_sound hT hs r early _ rfl (fun a'' w'' ⟨cx2, s2, σ2, h2, hk2⟩ => hQ a'' w'' ⟨cx2, s2, σ2, h2.ofRe hsd (fun g hg => h'.stab g hg), hk2⟩) hB2 (h'.re hsd)
              (fun _ => ⟨fun g hg => .inr (.inl hg), fun d cells hd hl => .inr (.inr ⟨d, cells, hd, hl, rfl⟩)⟩) hk')⟩
        unfold wpOp
        simp only [hi']
        rcases gate_wanted (ops := ops) h hk with ⟨hw, hk⟩ | ⟨hw, hk⟩
        · simp only [hw, if_true]
          exact .inl (Oper.wp_mono next (sem_sound hT hsd hd h hk))
        · simp only [hw, Bool.false_eq_true, if_false]
          exact next _ _ ⟨cx, _, σ, h.putO (dOK_spec hd) (.v (.c undef)), hk⟩

  | .fork i ra j rb, early, listed, B, hsd, hQ, cx, s, σ, a, w, hB, h, he, hk => by
    simp only [schedG, Bool.and_eq_true] at hB
    obtain ⟨⟨⟨hB1, hlen⟩, hBa⟩, hBb⟩ := hB
    have hlen : ra.len = rb.len := by simpa using hlen
    have hB1 : Region.ready .any ops listed = [i, j] := by simpa using hB1
    simp only [semF] at hk
    have go : ∀ (q : Nat) (r : Tf), r.len = ra.len → schedG P ops r early (listed.setIfInBounds q true) = true → (∀ {B : Base} (_hsd : B.sd = T.sd) (_hQ : ∀ a w, KC B n K a w → Q a w) {cx : Cx} {s : St} {σ : Hp} {a : Act} {w : World}, SR B n cx s σ a w →
        (early = true → (∀ g, cx.I g → B.still g) ∧ (∀ d cells, T.sd d = true → s.l d = some cells → B.still (cx.L d))) →
        semF P T n ops.toList (ops.toList.map (·.dst)) r K s σ → wpAnyH P .any ops (onlyN Q) (stillW B) r.len (listed.setIfInBounds q true) a w) →
        one P T n ops.toList (ops.toList.map (·.dst)) q 2 (semF P T n ops.toList (ops.toList.map (·.dst)) r K) s σ → wpOp P ops (onlyN Q) q (fun a' w' => stillW B w' ∧ wpAnyH P .any ops (onlyN Q) (stillW B) ra.len (listed.setIfInBounds q true) a' w') a w := fun q r hl hBr ih hk => by
      simp only [one] at hk
      cases hi : ops.toList[q]? with
      | none => simp [hi] at hk
      | some o =>
        simp only [hi] at hk
        obtain ⟨hd, hst, hk⟩ := hk
        have hi' : ops[q]? = some o := by simpa using hi
        have next : ∀ a' w', KC B n (semF P T n ops.toList (ops.toList.map (·.dst)) r K) a' w' → stillW B w' ∧ wpAnyH P .any ops (onlyN Q) (stillW B) ra.len (listed.setIfInBounds q true) a' w' := fun a' w' ⟨cx', s', σ', h', hk'⟩ =>
          ⟨h'.stillW, wpAnyH_mono (S' := stillW (B.re cx' s'.l T.sd w')) (fun w'' hw g hg => (hw g (.inl hg)).trans (h'.stab g hg)) _ _ _ _
            (hl ▸ ih rfl (fun a'' w'' ⟨cx2, s2, σ2, h2, hk2⟩ => hQ a'' w'' ⟨cx2, s2, σ2, h2.ofRe hsd (fun g hg => h'.stab g hg), hk2⟩) (h'.re hsd)
              (fun _ => ⟨fun g hg => .inr (.inl hg), fun d cells hd hl => .inr (.inr ⟨d, cells, hd, hl, rfl⟩)⟩) hk')⟩
        unfold wpOp
        simp only [hi']
        rcases gate_wanted (ops := ops) h hk with ⟨hw, hk⟩ | ⟨hw, hk⟩
        · simp only [hw, if_true]
          exact .inl (Oper.wp_mono next (sem_sound hT hsd hd h hk))
        · simp only [hw, Bool.false_eq_true, if_false]
          exact next _ _ ⟨cx, _, σ, h.putO (dOK_spec hd) (.v (.c undef)), hk⟩
    refine wpAnyH_all (rs := [i, j]) hB1 (by simp) (fun q hq => ?_)
    rcases List.mem_cons.1 hq with rfl | hq
    · exact go q ra rfl hBa (fun {B} hsd hQ {cx s σ a w} h he hk => semF_sound hT hs ra early _ hsd hQ hBa h he hk) hk.1
    · have hq : q = j := by simpa using hq
      subst hq
      exact go q rb hlen.symm hBb (fun {B} hsd hQ {cx s σ a w} h he hk => semF_sound hT hs rb early _ hsd hQ hBb h he hk) hk.2

  | .fork3 i ra j rb k rc, early, listed, B, hsd, hQ, cx, s, σ, a, w, hB, h, he, hk => by
    simp only [schedG, Bool.and_eq_true] at hB
    obtain ⟨⟨⟨⟨hB1, hlen, hlen2⟩, hBa⟩, hBb⟩, hBc⟩ := hB
    have hlen : ra.len = rb.len := by simpa using hlen
    have hlen2 : ra.len = rc.len := by simpa using hlen2
    have hB1 : Region.ready .any ops listed = [i, j, k] := by simpa using hB1
    simp only [semF] at hk
    have go : ∀ (q : Nat) (r : Tf), r.len = ra.len → schedG P ops r early (listed.setIfInBounds q true) = true → (∀ {B : Base} (_hsd : B.sd = T.sd) (_hQ : ∀ a w, KC B n K a w → Q a w) {cx : Cx} {s : St} {σ : Hp} {a : Act} {w : World}, SR B n cx s σ a w →
        (early = true → (∀ g, cx.I g → B.still g) ∧ (∀ d cells, T.sd d = true → s.l d = some cells → B.still (cx.L d))) →
        semF P T n ops.toList (ops.toList.map (·.dst)) r K s σ → wpAnyH P .any ops (onlyN Q) (stillW B) r.len (listed.setIfInBounds q true) a w) →
        one P T n ops.toList (ops.toList.map (·.dst)) q 2 (semF P T n ops.toList (ops.toList.map (·.dst)) r K) s σ → wpOp P ops (onlyN Q) q (fun a' w' => stillW B w' ∧ wpAnyH P .any ops (onlyN Q) (stillW B) ra.len (listed.setIfInBounds q true) a' w') a w := fun q r hl hBr ih hk => by
      simp only [one] at hk
      cases hi : ops.toList[q]? with
      | none => simp [hi] at hk
      | some o =>
        simp only [hi] at hk
        obtain ⟨hd, hst, hk⟩ := hk
        have hi' : ops[q]? = some o := by simpa using hi
        have next : ∀ a' w', KC B n (semF P T n ops.toList (ops.toList.map (·.dst)) r K) a' w' → stillW B w' ∧ wpAnyH P .any ops (onlyN Q) (stillW B) ra.len (listed.setIfInBounds q true) a' w' := fun a' w' ⟨cx', s', σ', h', hk'⟩ =>
          ⟨h'.stillW, wpAnyH_mono (S' := stillW (B.re cx' s'.l T.sd w')) (fun w'' hw g hg => (hw g (.inl hg)).trans (h'.stab g hg)) _ _ _ _
            (hl ▸ ih rfl (fun a'' w'' ⟨cx2, s2, σ2, h2, hk2⟩ => hQ a'' w'' ⟨cx2, s2, σ2, h2.ofRe hsd (fun g hg => h'.stab g hg), hk2⟩) (h'.re hsd)
              (fun _ => ⟨fun g hg => .inr (.inl hg), fun d cells hd hl => .inr (.inr ⟨d, cells, hd, hl, rfl⟩)⟩) hk')⟩
        unfold wpOp
        simp only [hi']
        rcases gate_wanted (ops := ops) h hk with ⟨hw, hk⟩ | ⟨hw, hk⟩
        · simp only [hw, if_true]
          exact .inl (Oper.wp_mono next (sem_sound hT hsd hd h hk))
        · simp only [hw, Bool.false_eq_true, if_false]
          exact next _ _ ⟨cx, _, σ, h.putO (dOK_spec hd) (.v (.c undef)), hk⟩
    refine wpAnyH_all (rs := [i, j, k]) hB1 (by simp) (fun q hq => ?_)
    rcases List.mem_cons.1 hq with rfl | hq
    · exact go q ra rfl hBa (fun {B} hsd hQ {cx s σ a w} h he hk => semF_sound hT hs ra early _ hsd hQ hBa h he hk) hk.1
    rcases List.mem_cons.1 hq with rfl | hq
    · exact go q rb hlen.symm hBb (fun {B} hsd hQ {cx s σ a w} h he hk => semF_sound hT hs rb early _ hsd hQ hBb h he hk) hk.2.1
    · have hq : q = k := by simpa using hq
      subst hq
      exact go q rc hlen2.symm hBc (fun {B} hsd hQ {cx s σ a w} h he hk => semF_sound hT hs rc early _ hsd hQ hBc h he hk) hk.2.2
/-- A region that draws its order, by a schedule that parts. -/
theorem AW.drawF {Q : Exit → St → Hp → Prop} (hT : T.ok P) (hm : P.follows .mixedOrders = true) {id : Nat} {l : List Oper} (t : Tf) (hlen : t.len = l.length) (hs : Region.noSelect l.toArray = true)
    (hB : schedH P l t true (List.replicate l.length false) = true) (h : semF P T n l (l.map (·.dst)) t (fun s σ => Q .normal s σ) s σ) : AW P n (.region id l.toArray true) Q s σ :=
  fun B cx a w h1 _ h3 => by
    have hB : schedG P l.toArray t true (Array.replicate l.length false) = true := by
      rw [schedH_eq _ _ _ _ _ (by simp)] at hB
      exact hB
    have h4 := h3.drew
    have h5 := h4.toAt T.sd
    refine wp_mono (Q := onlyN (fun a w => QC B n Q .normal a w)) (wp_region_held (S := stillW (B.at cx s.l T.sd w.drew)) hm ?_) (fun e a w hq => by cases e <;> first | exact hq | exact hq.elim)
    have := semF_sound hT hs (Q := fun a w => QC B n Q .normal a w) (K := fun s σ => Q .normal s σ)
      t true (Array.replicate l.length false) (B := B.at cx s.l T.sd w.drew) rfl (fun a w ⟨cx', s', σ', h6, h7⟩ => ⟨cx', s', σ', h6.ofAt h1, h7⟩) hB h5 (fun _ => ⟨fun g hg => .inl hg, fun d cells hd hl => .inr ⟨d, cells, hd, hl, rfl⟩⟩) (by simpa using h)
    rw [hlen] at this
    simpa using this
section
variable {ops : List Oper} {i k d j : Nat} {r : Tf} {o : Oper} {ds : List (Option Nat)} {b : Bool}
theorem F.g (ho : ops[i]? = some o) (hs : stC T s k o.op) (hd : okd n o.dst = true) (hg : o.guard = none)
    (h : ∀ K' : St → Hp → Prop, (∀ s σ, semF P T n ops ds r K s σ → K' s σ) → semOp P T o K' s σ) : semF P T n ops ds (.st i k r) K s σ := by
  have := D.g (P := P) (T := T) (n := n) (s := s) (σ := σ) (K := semF P T n ops ds r K) (ds := ds) (ops := ops) (i := i) (k := k) (l := []) ho hs hd hg h
  exact this
theorem F.y (ho : ops[i]? = some o) (hs : stC T s k o.op) (hd : okd n o.dst = true) (hg : o.guard = some (j, b)) (hj : ds[j]? = some (some d)) (hb : s.t d = .c (.bool b))
    (h : ∀ K' : St → Hp → Prop, (∀ s σ, semF P T n ops ds r K s σ → K' s σ) → semOp P T o K' s σ) : semF P T n ops ds (.st i k r) K s σ := by
  have := D.y (P := P) (T := T) (n := n) (s := s) (σ := σ) (K := semF P T n ops ds r K) (ds := ds) (ops := ops) (i := i) (k := k) (l := []) ho hs hd hg hj hb h
  exact this
theorem F.x (ho : ops[i]? = some o) (hk : k = 1 → isLoad o.op = true) (hd : okd n o.dst = true) (hg : o.guard = some (j, b)) (hj : ds[j]? = some (some d)) (hb : s.t d = .c (.bool (!b)))
    (h : ∀ K' : St → Hp → Prop, (∀ s σ, semF P T n ops ds r K s σ → K' s σ) → K' (s.putO o.dst (.c undef)) σ) : semF P T n ops ds (.st i k r) K s σ := by
  have := D.x (P := P) (T := T) (n := n) (s := s) (σ := σ) (K := semF P T n ops ds r K) (ds := ds) (ops := ops) (i := i) (k := k) (l := []) ho hk hd hg hj hb h
  exact this
theorem F.u (ho : ops[i]? = some o) (hk : k = 1 → isLoad o.op = true) (hd : okd n o.dst = true) (hg : o.guard = some (j, b)) (hj : ds[j]? = some (some d)) (hb : s.t d = .c undef)
    (h : ∀ K' : St → Hp → Prop, (∀ s σ, semF P T n ops ds r K s σ → K' s σ) → K' (s.putO o.dst (.c undef)) σ) : semF P T n ops ds (.st i k r) K s σ := by
  have := D.u (P := P) (T := T) (n := n) (s := s) (σ := σ) (K := semF P T n ops ds r K) (ds := ds) (ops := ops) (i := i) (k := k) (l := []) ho hk hd hg hj hb h
  exact this
theorem F.nil (h : K s σ) : semF P T n ops ds .nil K s σ := h
/-- Only so much of the state is wanted from here on. -/
theorem F.cut {t : Tf} (J : St → Hp → Prop) (h : J s σ) (k : ∀ s σ, J s σ → semF P T n ops ds t K s σ) : semF P T n ops ds t K s σ := k s σ h
theorem F.fork3 {a c e : Tf} {q : Nat} (h1 : semF P T n ops ds (.st i 2 a) K s σ) (h2 : semF P T n ops ds (.st j 2 c) K s σ) (h3 : semF P T n ops ds (.st q 2 e) K s σ) : semF P T n ops ds (.fork3 i a j c q e) K s σ := ⟨h1, h2, h3⟩
theorem F.fork {a c : Tf} (h1 : semF P T n ops ds (.st i 2 a) K s σ) (h2 : semF P T n ops ds (.st j 2 c) K s σ) : semF P T n ops ds (.fork i a j c) K s σ := ⟨h1, h2⟩
end
end
end Go.Abs
namespace Go.Abs
open Go
section
variable {P : Program} {σ : Hp}
/-- A call whose result is a list that grows: the result, frozen. -/
theorem ACalls.freeze {f : FuncId} {args : List V} {R R' : V → Hp → Prop} (h : ACalls P f args σ R)
    (hr : ∀ v σ', R v σ' → ∃ k T es, v = .gl k ∧ σ'.gr k = some (T, es) ∧ R' (.sl es) (σ'.setGr k none)) : ACalls P f args σ R' := by
  refine ⟨h.1, fun cx w xs hH ha => (h.2 cx w xs hH ha).mono fun e w' ⟨v, r, cx', σ', h1, h2, h3, h4⟩ => ?_⟩
  obtain ⟨k, T, es, rfl, hk, hR⟩ := hr v σ' h4
  obtain ⟨cx2, hle, hL, hI, hH2, hv⟩ := h3.heap.freeze hk
  have hsub : ∀ g, (σ'.setGr k none).own cx2 g → σ'.own cx' g := fun g hg => by
    rcases hg with ⟨c, hc⟩ | ⟨j, x, hj, hb⟩
    · exact .inl ⟨c, hc⟩
    · by_cases ej : j = k
      · simp [Hp.setGr, ej] at hj
      · simp only [Hp.setGr, ej, if_false] at hj
        have hjn := (h3.heap.gr j x.1 x.2 hj).1
        rw [hle.M j hjn] at hb
        exact .inr ⟨j, x, hj, hb⟩
  have hcx : r = cx'.M k := by cases h2; rfl
  refine ⟨.sl es, r, cx2, σ'.setGr k none, h1, hcx ▸ hv, ⟨hH2, ⟨h3.ext.os, h3.ext.tape, h3.ext.output, h3.ext.size, h3.ext.block, h3.ext.le.trans hle, fun g hg => ?_, fun g hg => h3.ext.fnew g (hsub g hg)⟩, fun j x hj => ?_, fun g x hg => h3.onew g x hg⟩, hR⟩
  · rcases hI g hg with hg | hg
    · exact h3.ext.inew g hg
    · rcases h3.ext.fnew g (.inr ⟨k, _, hk, hg⟩) with h | h
      · exact .inr (.inl h)
      · exact .inr (.inr h)
  · by_cases ej : j = k
    · simp [Hp.setGr, ej] at hj
    · simp only [Hp.setGr, ej, if_false] at hj
      exact h3.gnew j x hj
end
end Go.Abs
namespace Go.Abs
open Go
section
variable {P : Program}
end
section
variable {P : Program} {T : Tab} {B : Base} {n : Nat} {cx cx' : Cx} {s : St} {σ σ' : Hp} {a : Act} {w w' : World} {K : St → Hp → Prop}
/-- append of a make, to a list of the call's own. -/
def semAppendG (P : Program) (t : TypeId) (x y : V) (d : Option Nat) (K : St → Hp → Prop) (s : St) (σ : Hp) : Prop :=
  match dstE σ (P.elem t) (szT P (P.elem t)) x, y with
  | some (ok, es), .c (.int _ c) => ∃ z, zeroT P (P.elem t) = some z ∧ slT P t = true ∧ szT P (P.elem t) ≠ 0 ∧ z.cells.size = szT P (P.elem t) ∧ oneAll z.cells.toList = true ∧ 0 < c ∧ es.length + c.toNat ≤ maxLen ∧
      (es.length + c.toNat) * P.bytesOf (P.elem t) ≤ reach ∧
      ∀ k', (σ.delO ok).gr k' = none → K (s.putO d (.gl k')) ((σ.delO ok).setGr k' (some ((P.elem t, szT P (P.elem t)), es ++ List.replicate c.toNat (z.cells.toList.map .c))))
  | _, _ => False
/-- A region in order, where an append of a make may stand. -/
def semX (P : Program) (T : Tab) (o : Oper) (K : St → Hp → Prop) (s : St) (σ : Hp) : Prop :=
  semOp P T o K s σ ∨ ∃ t t' x y ki, P.underlying t' = some (.int ki) ∧ o.op = .call { callee := .builtin .append, args := #[x, y], argTypes := #[t, t'] } ∧ semAppendG P t (ev s x) (ev s y) o.dst K s σ
def semLX (P : Program) (T : Tab) (n : Nat) : List Oper → (St → Hp → Prop) → St → Hp → Prop
  | [], K, s, σ => K s σ
  | o :: r, K, s, σ => dOK n o.dst ∧ o.guard = none ∧ semX P T o (semLX P T n r K) s σ
theorem XS.g {o : Oper} {r : List Oper} (hd : okd n o.dst = true) (hg : o.guard = none) (h : semOp P T o (semLX P T n r K) s σ) : semLX P T n (o :: r) K s σ := ⟨okd_ok hd, hg, .inl h⟩
theorem XS.mk {o : Oper} {r : List Oper} {t t' : TypeId} {x y : Operand} {ki : IntKind} (hd : okd n o.dst = true) (hg : o.guard = none) (h1 : P.underlying t' = some (.int ki)) (h2 : o.op = .call { callee := .builtin .append, args := #[x, y], argTypes := #[t, t'] })
    (h : semAppendG P t (ev s x) (ev s y) o.dst (semLX P T n r K) s σ) : semLX P T n (o :: r) K s σ := ⟨okd_ok hd, hg, .inr ⟨t, t', x, y, ki, h1, h2, h⟩⟩
end
end Go.Abs
namespace Go.Abs
open Go
section
variable {P : Program} {B : Base} {n : Nat} {cx : Cx} {s : St} {σ : Hp} {a : Act} {w : World} {Q : Exit → St → Hp → Prop}
theorem SR.freezeX (h : SR B n cx s σ a w) {k : Nat} {T : TypeId × Nat} {es : List (List V)} (hk : σ.gr k = some (T, es)) : ∃ cx', SR B n cx' (s.fz k es) (σ.setGr k none) a w ∧ cx.le cx' ∧ VR w cx' (.sl es) (cx.M k) := by
  obtain ⟨cx', hle, hL, hI, hH, hv⟩ := h.heap.freeze hk
  have own' : ∀ g, (σ.setGr k none).own cx' g → σ.own cx g := fun g hg => by
    rcases hg with ⟨c, hc⟩ | ⟨j, x, hj, hb⟩
    · exact .inl ⟨c, hc⟩
    · by_cases e : j = k
      · simp [Hp.setGr, e] at hj
      · simp only [Hp.setGr, e, if_false] at hj
        exact .inr ⟨j, x, hj, by rw [← hle.M j (h.heap.gr j x.1 x.2 hj).1]; exact hb⟩
  have h1 : SR B n cx' s (σ.setGr k none) a w := h.heapstep hle hL (fun g hg => (hI g hg).imp id (fun e => .inl (.inr ⟨k, _, hk, e⟩))) (fun g hg => .inl (own' g hg)) rfl rfl rfl (Nat.le_refl _) (fun _ _ _ => rfl) hH
    (fun j x hj => by
      by_cases e : j = k
      · simp [Hp.setGr, e] at hj
      · simp only [Hp.setGr, e, if_false] at hj; exact .inl ⟨x, hj⟩) (fun g x hx => .inl ⟨x, hx⟩)
  have hfe : foot cx' (σ.setGr k none) (s.fz k es).l = foot cx' (σ.setGr k none) s.l := by
    funext g
    refine propext (or_congr Iff.rfl ⟨fun ⟨d, c, hd, e⟩ => ?_, fun ⟨d, c, hd, e⟩ => ⟨d, c.map (fz1 k es), by simp [hd], e⟩⟩)
    simp only [St.fz_l, Option.map_eq_some_iff] at hd
    obtain ⟨c, hc, rfl⟩ := hd
    exact ⟨d, c, hc, e⟩
  refine ⟨cx', ⟨h1.size, by rw [hfe]; exact h1.defers, h1.nd, fun t => ?_, h1.heap, ⟨fun d cells hd => ?_, fun d cells hd => ?_, fun d e c c' hd he => ?_⟩, ?_, h1.gnew, h1.onew, h1.stab, h1.stN, fun d c hd => ?_⟩, hle, hv⟩
  · have ht := h.tmp t
    show TR w cx' (fzV k es (s.t t)) _
    generalize s.t t = v at ht
    generalize a.tmps.getD t undef = x at ht
    cases ht with
    | v hv' => exact .v (fzV_VR hle hv hv')
    | lp d off => rw [← hL]; exact .lp d off
    | junk => exact .junk _
  · simp only [St.fz_l, Option.map_eq_some_iff] at hd
    obtain ⟨c, hc, rfl⟩ := hd
    obtain ⟨T', cs, h2, h3⟩ := h.box.box d c hc
    rw [hL]
    exact ⟨T', cs, h2, fzs_VRs hle hv h3⟩
  · simp only [St.fz_l, Option.map_eq_some_iff] at hd
    obtain ⟨c, hc, rfl⟩ := hd
    exact h1.box.apart d c hc
  · simp only [St.fz_l, Option.map_eq_some_iff] at hd he
    obtain ⟨c, hc, rfl⟩ := hd
    obtain ⟨c', hc', rfl⟩ := he
    exact h1.box.inj d e c c' hc hc'
  · have e : foot cx' (σ.setGr k none) (s.fz k es).l = foot cx' (σ.setGr k none) s.l := by
      funext g
      refine propext (or_congr Iff.rfl ⟨fun ⟨d, c, hd, e⟩ => ?_, fun ⟨d, c, hd, e⟩ => ⟨d, c.map (fz1 k es), by simp [hd], e⟩⟩)
      simp only [St.fz_l, Option.map_eq_some_iff] at hd
      obtain ⟨c, hc, rfl⟩ := hd
      exact ⟨d, c, hc, e⟩
    rw [e]; exact h1.ext
  · simp only [St.fz_l, Option.map_eq_some_iff] at hd
    obtain ⟨c, hc, rfl⟩ := hd
    exact h1.stS d c hc
/-- A growing list that an object holds, frozen there too. -/
theorem SR.freezeO (h : SR B n cx s σ a w) {k g : Nat} {T : TypeId × Nat} {es : List (List V)} {cells : List V} (hk : σ.gr k = some (T, es)) (hg : σ.obj g = some cells) (hm : isMap cells = false) :
    ∃ cx', SR B n cx' (s.fz k es) ((σ.setGr k none).setObj g (some (cells.map (fz1 k es)))) a w := by
  obtain ⟨cx', h1, hle, hv⟩ := h.freezeX hk
  obtain ⟨o, ho, hor⟩ := h.heap.obj g cells hg
  obtain ⟨T', cs, rfl, hvs⟩ := hor.row hm
  have hg' : (σ.setGr k none).obj g = some cells := hg
  have hH := h1.heap.setObj_same (w' := w) hg' ho (OR.cells (fzs_VRs hle hv hvs)) (Nat.le_refl _) (fun _ _ _ => rfl)
  refine ⟨cx', h1.heapstep (.refl _) rfl (fun _ hg => .inl hg) (fun g' hg' => ?_) rfl rfl rfl (Nat.le_refl _) (fun _ _ _ => rfl) hH (fun j x hj => .inl ⟨x, hj⟩) (fun g' x hx => ?_)⟩
  · rcases own_setObj hg' with h2 | h2
    · exact .inl h2
    · rw [h2]; exact .inl (.inl ⟨_, hg⟩)
  · by_cases e : g' = g
    · rw [e]; exact .inl ⟨_, hg⟩
    · simp only [Hp.setObj, e, if_false] at hx; exact .inl ⟨x, hx⟩
theorem AW.freezeO {c : Code} {k g : Nat} {T : TypeId × Nat} {es : List (List V)} {cells : List V} (hk : σ.gr k = some (T, es)) (hg : σ.obj g = some cells) (hm : isMap cells = false)
    (h : AW P n c Q (s.fz k es) ((σ.setGr k none).setObj g (some (cells.map (fz1 k es))))) : AW P n c Q s σ :=
  fun B cx a w h1 h2 h3 => by
    obtain ⟨cx', h4⟩ := h3.freezeO hk hg hm
    exact h B cx' a w h1 h2 h4
/-- A nil slice that an object holds is an empty one. -/
theorem AW.nilO {c : Code} {g : Nat} {cells : List V} (hg : σ.obj g = some cells) (hm : isMap cells = false) (h : AW P n c Q s (σ.setObj g (some (cells.map wk1)))) : AW P n c Q s σ :=
  fun B cx a w h1 h2 h3 => by
    obtain ⟨o, ho, hor⟩ := h3.heap.obj g cells hg
    obtain ⟨T', cs, rfl, hvs⟩ := hor.row hm
    have hv2 : VRs w cx (cells.map wk1) cs := ⟨by simpa using hvs.1, hvs.2.1, fun i v x hi hx => by
      simp only [List.getElem?_map, Option.map_eq_some_iff] at hi
      obtain ⟨u, hu, rfl⟩ := hi
      exact wk1_VR (hvs.2.2 i u x hu hx)⟩
    have hH := h3.heap.setObj_same (w' := w) hg ho (OR.cells hv2) (Nat.le_refl _) (fun _ _ _ => rfl)
    refine h B cx a w h1 h2 (h3.heapstep (.refl _) rfl (fun _ hg => .inl hg) (fun g' hg' => ?_) rfl rfl rfl (Nat.le_refl _) (fun _ _ _ => rfl) hH (fun j x hj => .inl ⟨x, hj⟩) (fun g' x hx => ?_))
    · rcases own_setObj hg' with h2 | h2
      · exact .inl h2
      · rw [h2]; exact .inl (.inl ⟨_, hg⟩)
    · by_cases e : g' = g
      · rw [e]; exact .inl ⟨_, hg⟩
      · simp only [Hp.setObj, e, if_false] at hx; exact .inl ⟨x, hx⟩
end
end Go.Abs
namespace Go.Abs
open Go
section
variable {P : Program} {T : Tab} {n : Nat} {r : Option Nat} {s : St} {σ : Hp} {K : St → Hp → Prop} {Q Q' : Exit → St → Hp → Prop}
/-- The fence of a frame: a round's, or a plain one's. -/
abbrev RF (ro : Option Nat) : Fence := { Fence.wide with round := ro }
theorem CallsIn.toRF {ro : Option Nat} {m : Nat} {f : FuncId} {args : Array Value} {w : World} {R : Ending → World → Prop} (h : CallsIn Fence.wide m P f args w R) : CallsIn (RF ro) m P f args w R := h
theorem upon_in' {o : Oper} {a : Act} {K K' : Act → World → Prop} {Q Q' : Exit → Act → World → Prop} (hP : ∀ c a w, Q (.panic c) a w → Q' (.panic c) a w) (hO : LetsOut Q → LetsOut Q') (hK : ∀ a w, K a w → K' a w) : ∀ {x : Result Next}, o.upon P a K Q x → o.uponIn (RF r) 0 P a K' Q' x
  | .ok (.value v) w, h => hK _ _ h
  | .ok .skip w, h => hK _ _ h
  | .ok (.defer d) w, h => hK _ _ h
  | .ok (.enter f args) w, h => by
    refine ⟨fun e => (by cases e), CallsIn.toRF ((callsIn_wide (n := 0)).2 ?_)⟩
    refine Calls.mono h fun e w'' he => ?_
    cases e with
    | returned v => exact hK _ _ he
    | panicked c => exact hP _ _ _ he
    | outgrown => exact hO he
  | .ok (.row row args) w, h => by
    refine ⟨fun e => (by cases e), fun c cs _ => ?_⟩
    obtain ⟨v, w', h1, h2⟩ := h c cs
    exact ⟨v, w', hK _ _ h1, stepsIn_wide.2 h2⟩
  | .ok (.round ..) w, h => h.elim
  | .halt (.panic v) w, h => hP _ _ _ h
  | .halt (.exit ..) w, h => h.elim
  | .halt (.fatal ..) w, h => h.elim
  | .halt (.stuck ..) w, h => h.elim
  | .halt (.unsupported ..) w, h => h.elim
theorem upon_in {o : Oper} {a : Act} {K K' : Act → World → Prop} {Q : Exit → Act → World → Prop} (hK : ∀ a w, K a w → K' a w) {x : Result Next} (h : o.upon P a K Q x) : o.uponIn (RF r) 0 P a K' Q x :=
  upon_in' (fun _ _ _ h => h) id hK h
theorem onlyN_no {Q : Act → World → Prop} : ¬ LetsOut (onlyN Q) := fun ⟨_, _, h⟩ => h
def noDefer (ops : List Oper) : Bool := ops.all fun o => match o.op with | .defer _ => false | _ => true
theorem noDefer_spec {ops : List Oper} (h : noDefer ops = true) {i : Nat} {o : Oper} (hi : ops.toArray[i]? = some o) : ∀ c, o.op ≠ .defer c := fun c e => by
  have := List.all_eq_true.1 h o (List.mem_of_getElem? (by simpa using hi))
  rw [e] at this; cases this
theorem ops_in {ops : List Oper} {Q : Exit → Act → World → Prop} (hQ : ¬ LetsOut Q) (hd : noDefer ops = true) : ∀ (l : List Nat) (a : Act) (w : World), wpOps P ops.toArray Q l a w → wpOpsIn (RF r) 0 P ops.toArray Q l a w
  | [], a, w, h => h
  | i :: l, a, w, h => by
    simp only [wpOps, wpOpsIn] at h ⊢
    cases ho : ops.toArray[i]? with
    | none => simp only [ho] at h ⊢; exact ops_in hQ hd l a w h
    | some o =>
      simp only [ho] at h ⊢
      split
      · rename_i hw
        rw [if_pos hw] at h
        refine ⟨fun _ _ => trivial, ?_⟩
        rw [Oper.semAt_eq _ _ _ (noDefer_spec hd ho)]
        rcases h with h | h
        · exact upon_in (fun a w h => ops_in hQ hd l a w h) h
        · exact (hQ h.2).elim
      · rename_i hw
        rw [if_neg hw] at h
        exact ⟨fun _ _ => trivial, ops_in hQ hd l _ w h⟩
/-- A part of a region, walked by the logic; then the rest. -/
theorem ops_at {l : List Oper} {Q1 : Act → World → Prop} {Q : Exit → Act → World → Prop} (hd : noDefer l = true) {q : Nat} : ∀ (m k : Nat) (a : Act) (w : World),
    wpList P l.toArray (onlyN Q1) ((l.drop k).take m) a w → (∀ a w, Q1 a w → wpOpsIn (RF r) 0 P l.toArray Q (List.range' (k + m) q) a w) → k + m ≤ l.length → wpOpsIn (RF r) 0 P l.toArray Q (List.range' k (m + q)) a w
  | 0, k, a, w, h, hq, _ => by
    have := hq a w (by simpa [wpList, onlyN] using h)
    simpa using this
  | m + 1, k, a, w, h, hq, hl => by
    have hlt : k < l.length := by omega
    have e1 : (l.drop k).take (m + 1) = l[k] :: (l.drop (k + 1)).take m := by rw [List.drop_eq_getElem_cons hlt, List.take_succ_cons]
    have e2 : List.range' k (m + 1 + q) = k :: List.range' (k + 1) (m + q) := by rw [show m + 1 + q = (m + q) + 1 by omega, List.range'_succ]
    have ho : l.toArray[k]? = some l[k] := by simp [hlt]
    rw [e1] at h
    rw [e2]
    have next : ∀ a w, wpList P l.toArray (onlyN Q1) ((l.drop (k + 1)).take m) a w → wpOpsIn (RF r) 0 P l.toArray Q (List.range' (k + 1) (m + q)) a w := fun a w h' =>
      ops_at hd m (k + 1) a w h' (by rw [show k + 1 + m = k + (m + 1) by omega]; exact hq) (by omega)
    simp only [wpList] at h
    simp only [wpOpsIn, ho]
    split
    · rename_i hw
      rw [if_pos hw] at h
      refine ⟨fun _ _ => trivial, ?_⟩
      rw [Oper.semAt_eq _ _ _ (noDefer_spec hd ho)]
      rcases h with h | h
      · exact upon_in' (fun c a w h => h.elim) (fun ⟨_, _, h⟩ => h.elim) next h
      · exact (onlyN_no h.2).elim
    · rename_i hw
      rw [if_neg hw] at h
      exact ⟨fun _ _ => trivial, next _ w h⟩
theorem SR.ofAtS {B : Base} {cx : Cx} {a : Act} {w : World} (hB : ∀ g, ¬ B.still g) {cx0 : Cx} {l0 : Nat → Option (List V)} {sd : Nat → Bool} {w1 : World} (h : SR (B.at cx0 l0 sd w1) n cx s σ a w) : SR B n cx s σ a w :=
  ⟨h.size, h.defers, h.nd, h.tmp, h.heap, h.box, h.ext, h.gnew, h.onew, fun g hg => (hB g hg).elim, fun g hg => (hB g hg).elim, fun _ _ _ hg => (hB _ hg).elim⟩
/-- Code in a round, from a state. -/
def AWR (P : Program) (n : Nat) (r : Option Nat) (c : Code) (Q : Exit → St → Hp → Prop) (s : St) (σ : Hp) : Prop :=
  ∀ (B : Base) (cx : Cx) (a : Act) (w : World), (∀ g, ¬ B.still g) → B.sd = (fun _ => false) → SR B n cx s σ a w → c.wpIn (RF r) 0 P (QC B n Q) a w
theorem AWR.mono {c : Code} (h : AWR P n r c Q s σ) (hq : ∀ e s σ, Q e s σ → Q' e s σ) : AWR P n r c Q' s σ :=
  fun B cx a w h1 h2 h3 => wpIn_mono (h B cx a w h1 h2 h3) fun e _ _ ⟨cx', s', σ', h4, h5⟩ => ⟨cx', s', σ', h4, hq e s' σ' h5⟩
theorem AWR.skip (h : Q .normal s σ) : AWR P n r .skip Q s σ := fun _ cx _ _ _ _ h3 => wpIn_skip ⟨cx, s, σ, h3, h⟩
theorem AWR.exit {id : Nat} (h : Q (.exit id) s σ) : AWR P n r (.exit id) Q s σ := fun _ cx _ _ _ _ h3 => wpIn_exit ⟨cx, s, σ, h3, h⟩
theorem AWR.ret (h : Q .ret s σ) : AWR P n r .ret Q s σ := fun _ cx _ _ _ _ h3 => wpIn_ret ⟨cx, s, σ, h3, h⟩
theorem AWR.seq {x y : Code} (h : AWR P n r x (thenS (AWR P n r y Q) Q) s σ) : AWR P n r (.seq x y) Q s σ :=
  fun B cx a w h1 h2 h3 => wpIn_seq (wpIn_mono (h B cx a w h1 h2 h3) fun e a' w' ⟨cx', s', σ', h4, h5⟩ => by
    cases e with
    | normal => exact h5 B cx' a' w' h1 h2 h4
    | _ => exact ⟨cx', s', σ', h4, h5⟩)
theorem AWR.seq_k {x y : Code} (h : ∀ K : St → Hp → Prop, (∀ s σ, AWR P n r y Q s σ → K s σ) → AWR P n r x (thenS K Q) s σ) : AWR P n r (.seq x y) Q s σ :=
  .seq (h _ fun _ _ h => h)
theorem AWR.cond {c : Operand} {x y : Code} {b : Bool} (hc : ev s c = .c (.bool b)) (ht : b = true → AWR P n r x Q s σ) (hf : b = false → AWR P n r y Q s σ) : AWR P n r (.cond c x y) Q s σ :=
  fun B cx a w h1 h2 h3 => by
    have hv := h3.tr c
    rw [hc] at hv
    exact wpIn_cond_split hv.c_eq (fun e => ht e B cx a w h1 h2 h3) (fun e => hf e B cx a w h1 h2 h3)
theorem AWR.block {id : Nat} {c : Code} (h : AWR P n r c (inBlockS id Q) s σ) : AWR P n r (.block id c) Q s σ :=
  fun B cx a w h1 h2 h3 => wpIn_block (wpIn_mono (h B cx a w h1 h2 h3) fun e a' w' ⟨cx', s', σ', h4, h5⟩ => by
    cases e with
    | exit id' =>
      simp only [Exit.inBlock, inBlockS] at h5 ⊢
      split
      · rename_i e; rw [if_pos e] at h5; exact ⟨cx', s', σ', h4, h5⟩
      · rename_i e; rw [if_neg e] at h5; exact ⟨cx', s', σ', h4, h5⟩
    | _ => exact ⟨cx', s', σ', h4, h5⟩)
theorem wpIn_onlyN {c : Code} {B : Base} {a : Act} {w : World} (h : c.wpIn (RF r) 0 P (onlyN fun a w => QC B n Q .normal a w) a w) : c.wpIn (RF r) 0 P (QC B n Q) a w :=
  wpIn_mono h fun e a w hq => by cases e <;> first | exact hq | exact hq.elim
theorem AWR.region (hT : T.ok P) (hsd : T.sd = fun _ => false) {id : Nat} {l : List Oper} (hd : noDefer l = true) (h : semL P T n (l.map (·.dst)) l (fun s σ => Q .normal s σ) s σ) : AWR P n r (.region id l.toArray false) Q s σ :=
  fun B cx a w _ h2 h3 => wpIn_onlyN (wpIn_region (ops_in onlyN_no hd _ _ _ (by
    have := semL_sound (Q := onlyN fun a w => QC B n Q .normal a w) hT (h2.trans hsd.symm) (ops := l.toArray) l h3 (fun a w ⟨cx, s, σ, h4, h5⟩ => ⟨cx, s, σ, h4, h5⟩) (by simpa using h)
    rw [List.range_eq_range', ← Array.length_toList, wpOps_eq_wpList l.toArray.toList 0 (by simp)]
    simpa using this)))
theorem AWR.reg0 {id : Nat} {l : List Oper} (h : noDefer l = true ∧ semL P {} n (l.map (·.dst)) l (fun s σ => Q .normal s σ) s σ) : AWR P n r (.region id l.toArray false) Q s σ :=
  .region (T := {}) (fun _ _ h => by cases h) rfl h.1 h.2
theorem region_heldR {id : Nat} {l : List Oper} {S : World → Prop} {Q : Exit → Act → World → Prop} {a : Act} {w : World} (hm : P.follows .mixedOrders = true) (hQ : ¬ LetsOut Q) (hd : noDefer l = true)
    (h : wpAnyH P .any l.toArray Q S l.toArray.size (Array.replicate l.toArray.size false) a { w with drawn := w.drawn + 1 }) : (Code.region id l.toArray true).wpIn (RF r) 0 P Q a w :=
  wpIn_region_draw fun t => ops_in hQ hd _ _ _ (by
    simp only [Region.schedule, hm, Bool.true_or, if_true]
    exact wpAny_sound _ t _ a _ (wpAny_of_held _ _ _ _ h))
/-- A region that draws its order, in a round. -/
theorem AWR.drawF (hT : T.ok P) (hm : P.follows .mixedOrders = true) {id : Nat} {l : List Oper} (t : Tf) (hlen : t.len = l.length) (hs : Region.noSelect l.toArray = true)
    (hB : (noDefer l && schedH P l t true (List.replicate l.length false)) = true) (h : semF P T n l (l.map (·.dst)) t (fun s σ => Q .normal s σ) s σ) : AWR P n r (.region id l.toArray true) Q s σ :=
  fun B cx a w h1 _ h3 => by
    rw [Bool.and_eq_true] at hB
    obtain ⟨hd, hB⟩ := hB
    have hB : schedG P l.toArray t true (Array.replicate l.length false) = true := by
      rw [schedH_eq _ _ _ _ _ (by simp)] at hB
      exact hB
    have h4 := h3.drew
    have h5 := h4.toAt T.sd
    refine wpIn_onlyN (region_heldR (S := stillW (B.at cx s.l T.sd w.drew)) hm onlyN_no hd ?_)
    have := semF_sound hT hs (Q := fun a w => QC B n Q .normal a w) (K := fun s σ => Q .normal s σ)
      t true (Array.replicate l.length false) (B := B.at cx s.l T.sd w.drew) rfl (fun a w ⟨cx', s', σ', h6, h7⟩ => ⟨cx', s', σ', h6.ofAtS h1, h7⟩) hB h5 (fun _ => ⟨fun g hg => .inl hg, fun d cells hd hl => .inr ⟨d, cells, hd, hl, rfl⟩⟩) (by simpa using h)
    rw [hlen] at this
    simpa using this
end
end Go.Abs
namespace Go.Abs
open Go
section
variable {P : Program} {n : Nat} {s : St} {σ : Hp}
/-- What is known of blocks that nobody writes, and nothing else. -/
def Cx.im (I : Nat → Prop) : Cx := ⟨I, fun _ => undef, fun _ => 0, 0, fun _ => 0⟩
theorem VR.ofIm {w : World} {I : Nat → Prop} {cx : Cx} {v : V} {x : Value} (h : VR w (Cx.im I) v x) (hI : ∀ g, I g → cx.I g) : VR w cx v x :=
  h.keep (fun _ _ => rfl) ⟨hI, Nat.zero_le _, fun k hk => absurd hk (Nat.not_lt_zero k), fun k hk => absurd hk (Nat.not_lt_zero k)⟩
/-- Values that hold nothing of a heap of one's own. -/
inductive Imm : V → Prop
  | c (x : Value) : Imm (.c x)
  | sl {es : List (List V)} (h : ∀ e : List V, e ∈ es → ∀ v : V, v ∈ e → Imm v) : Imm (.sl es)
  | ip {es : List (List V)} {i off : Nat} (h : ∀ e : List V, e ∈ es → ∀ v : V, v ∈ e → Imm v) : Imm (.ip es i off)
  | agg {vs : List V} (h : ∀ v : V, v ∈ vs → Imm v) : Imm (.agg vs)
theorem VR.toIm {w : World} {cx : Cx} {v : V} {x : Value} (h : VR w cx v x) (hv : Imm v) : VR w (Cx.im cx.I) v x := by
  induction h with
  | c x => exact .c x
  | nils => exact .nils
  | nile a => exact .nile a
  | sl f hb hcap hlen hc hr h1 ih =>
    cases hv with
    | sl h => exact .sl f hb hcap hlen hc (fun i e j v hi hj => ih i e j v hi hj (h e (List.mem_of_getElem? hi) v (List.mem_of_getElem? hj))) h1
  | ip f hb hi hlen hc hr h1 ih =>
    cases hv with
    | ip h => exact .ip f hb hi hlen hc (fun i e j v hi hj => ih i e j v hi hj (h e (List.mem_of_getElem? hi) v (List.mem_of_getElem? hj))) h1
  | gl hk hs => cases hv
  | gp hk hg => cases hv
  | agg h1 hn _ ih => cases hv with | agg h => exact .agg h1 hn (fun i v x hv hx => ih i v x hv hx (h v (List.mem_of_getElem? hv)))
  | tup hn _ ih => cases hv
  | fn hn _ hm _ ih1 ih2 => cases hv
/-- New blocks, and nothing else. -/
structure Newer (W W' : World) : Prop where
  os : W'.os = W.os
  tape : W'.tape = W.tape
  output : W'.output = W.output
  size : W.heap.size ≤ W'.heap.size
  block : ∀ g, g < W.heap.size → W'.heap[g]? = W.heap[g]?
theorem Newer.refl (W : World) : Newer W W := ⟨rfl, rfl, rfl, Nat.le_refl _, fun _ _ => rfl⟩
/-- More blocks that nobody writes. -/
def MoreI (I I' : Nat → Prop) (W W' : World) : Prop := (∀ g, I g → I' g) ∧ ∀ g, I' g → I g ∨ (W.heap.size ≤ g ∧ g < W'.heap.size)
/-- An iterator: it hands the elements 'xs', one by one, to whatever round: 'J i I W': between two rounds, i have come; 'Jx': a round has said no more. -/
def Iter (P : Program) (f : FuncId) (caps : List V) (xs : List V) : Prop :=
  (∀ (zs : Array Value) (w : World), (callFunc f zs).run P w = .ok (.enter f zs) w) ∧
  ∀ (l : Nat) (W0 : World) (I0 : Nat → Prop) (cv : List Value) (J : Nat → (Nat → Prop) → World → Prop) (Jx : World → Prop),
    VAs W0 (Cx.im I0) caps cv →
    (∀ i I W, J i I W → ∀ g, I g → g < W.heap.size) →
    (∀ i I W I' W', J i I W → Newer W W' → MoreI I I' W W' → J i I' W') →
    (∀ I W I' W', Jx W → Newer W W' → MoreI I I' W W' → Jx W') →
    (∀ i I W v x, J i I W → xs[i]? = some v → VR W (Cx.im I) v x → YieldAt Fence.wide 0 P l #[x] W fun e W' =>
      (e = .returned (.bool true) ∧ ∃ I', J (i + 1) I' W' ∧ (∀ g, I g → I' g ∧ W'.heap[g]? = W.heap[g]?)) ∨ (e = .returned (.bool false) ∧ Jx W')) →
    J 0 I0 W0 →
    CallsIn Fence.wide 0 P f (#[.func (.yield l) #[] #[]] ++ ⟨cv⟩) W0 fun e W' => (∃ v, e = .returned v) ∧ ((∃ I, J xs.length I W') ∨ Jx W')
def keepV : V → V
  | .c x => .c x
  | .sl es => .sl es
  | .ip es i o => .ip es i o
  | .fn f a b => .fn f a b
  | _ => .junk
/-- A frame that owns nothing. -/
def Base.it (cx : Cx) (w : World) : Base := { cx := cx, F := fun _ => False, w := w, g := fun _ => False, o := fun _ => False, nd := true }
theorem Base.it_Ext {cx : Cx} {w : World} : Ext cx (fun _ => False) w cx (foot cx Hp.empty fun _ => none) w :=
  ⟨rfl, rfl, rfl, Nat.le_refl _, fun _ _ _ => rfl, .refl _, fun _ h => .inl h, fun g hg => by
    rcases hg with hg | ⟨d, c, hd, _⟩
    · exact (own_empty hg).elim
    · cases hd⟩
theorem keepV_TR {w w' : World} {cx cx' : Cx} {v : V} {x : Value} (h : TR w cx v x) (hw : ∀ g, cx.I g → w'.heap[g]? = w.heap[g]?) (hle : cx.le cx') : TR w' cx' (keepV v) x := by
  cases h with
  | v h =>
    have h' := h.keep hw hle
    cases v <;> first | exact .v h' | exact .junk _
  | lp d off => exact .junk _
  | junk => exact .junk _
theorem SR.again {B : Base} {cx : Cx} {a : Act} {w W' : World} {I' : Nat → Prop} (h : SR B n cx s σ a w) (hnd : B.nd = true) (hI : ∀ g, cx.I g → I' g ∧ W'.heap[g]? = w.heap[g]?) (hlt : ∀ g, I' g → g < W'.heap.size) :
    SR (Base.it { cx with I := I' } W') n { cx with I := I' } ⟨fun t => keepV (s.t t), fun _ => none⟩ Hp.empty a W' := by
  have hle : cx.le { cx with I := I' } := ⟨fun g hg => (hI g hg).1, Nat.le_refl _, fun _ _ => rfl, fun _ _ => rfl⟩
  have hd := h.nd hnd
  refine ⟨h.size, by rw [hd]; exact Marks.nil, fun _ => hd, fun t => keepV_TR (h.tmp t) (fun g hg => (hI g hg).2) hle, ⟨fun g c hc => (by cases hc), fun k T es hk => (by cases hk), fun k k' x x' g hk => (by cases hk), fun k x g c hk => (by cases hk), fun g hg => (own_empty hg).elim, fun g hg => hlt g hg⟩,
    ⟨fun d c hd => (by cases hd), fun d c hd => (by cases hd), fun d e c c' hd => (by cases hd)⟩, Base.it_Ext, fun k x hk => (by cases hk), fun g x hk => (by cases hk), fun g hs => hs.elim, fun g hs => hs.elim, fun d c hd => (by cases hd)⟩
/-- What such a frame has done: new blocks alone. -/
theorem SR.newer {B : Base} {cx0 cx : Cx} {a : Act} {w W : World} (hB : B = Base.it cx0 W) (h : SR B n cx s σ a w) : Newer W w ∧ MoreI cx0.I cx.I W w := by
  subst hB
  have he := h.ext
  refine ⟨⟨he.os, he.tape, he.output, he.size, fun g hg => he.block g hg (fun h => h)⟩, fun g hg => he.le.I g hg, fun g hg => ?_⟩
  rcases he.inew g hg with h1 | h1 | h1
  · exact .inl h1
  · exact h1.elim
  · exact .inr ⟨h1, h.heap.ilt g hg⟩
/-- The frame, as it begins. -/
theorem SR.itBegin {W : World} {I : Nat → Prop} {args : List V} {xs : List Value} {k : Nat} (ha : VAs W (Cx.im I) args xs) (_l : args.length ≤ n) (hk : xs.length + k = n) (hlt : ∀ g, I g → g < W.heap.size) :
    SR (Base.it (Cx.im I) W) n (Cx.im I) (enterS args) Hp.empty { tmps := (⟨xs⟩ : Array Value) ++ Array.replicate k undef, defers := [] } W := by
  refine ⟨by simp; omega, Marks.nil, fun _ => rfl, fun t => ?_, ⟨fun g c hc => (by cases hc), fun k T es hk => (by cases hk), fun k k' x x' g hk => (by cases hk), fun k x g c hk => (by cases hk), fun g hg => (own_empty hg).elim, fun g hg => hlt g hg⟩,
    ⟨fun d c hd => (by cases hd), fun d c hd => (by cases hd), fun d e c c' hd => (by cases hd)⟩, Base.it_Ext, fun k x hk => (by cases hk), fun g x hk => (by cases hk), fun g hs => hs.elim, fun g hs => hs.elim, fun d c hd => (by cases hd)⟩
  show TR W _ (args.getD t .junk) _
  by_cases ht : t < args.length
  · have h1 : args[t]? = some args[t] := List.getElem?_eq_getElem ht
    have htx : t < xs.length := by rw [← ha.1]; exact ht
    have h2 : xs[t]? = some xs[t] := List.getElem?_eq_getElem htx
    have h3 := ha.2 t _ _ h1 h2
    have e1 : args.getD t .junk = args[t] := by simp [List.getD, h1]
    have e2 : ((⟨xs⟩ : Array Value) ++ Array.replicate k undef).getD t undef = xs[t] := by
      simp [Array.getD_eq_getD_getElem?, Array.getElem?_append, htx]
    rw [e1]
    show TR W _ _ (((⟨xs⟩ : Array Value) ++ Array.replicate k undef).getD t undef)
    rw [e2]
    exact .v h3
  · have e1 : args.getD t .junk = .junk := by simp [List.getD, List.getElem?_eq_none (Nat.le_of_not_lt ht)]
    rw [e1]; exact .junk _
/-- A plain region of such a frame. -/
theorem it_region {B : Base} {cx : Cx} {a : Act} {w : World} {K : St → Hp → Prop} {id : Nat} {l : List Oper} (h : SR B n cx s σ a w) (hsd : B.sd = fun _ => false) (hs : semL P {} n (l.map (·.dst)) l K s σ) :
    (Code.region id l.toArray false).wpIn Fence.wide 0 P (onlyN (KC B n K)) a w :=
  wpIn_wide.2 (wp_region_lit (semL_sound (Q := onlyN (KC B n K)) (T := {}) (fun _ _ h => by cases h) hsd (ops := l.toArray) l h (fun a w h => h) (by simpa using hs)))
/-- A part of a region. -/
theorem it_part {B : Base} {cx : Cx} {a : Act} {w : World} {K : St → Hp → Prop} {l : List Oper} (m k q : Nat) {Q : Exit → Act → World → Prop} (hd : noDefer l = true) (hl : k + m ≤ l.length) (h : SR B n cx s σ a w) (hsd : B.sd = fun _ => false)
    (hs : semL P {} n (l.map (·.dst)) ((l.drop k).take m) K s σ) (hq : ∀ a w, KC B n K a w → wpOpsIn Fence.wide 0 P l.toArray Q (List.range' (k + m) q) a w) : wpOpsIn Fence.wide 0 P l.toArray Q (List.range' k (m + q)) a w :=
  ops_at (r := none) hd m k a w (semL_sound (Q := onlyN (KC B n K)) (T := {}) (fun _ _ h => by cases h) hsd (ops := l.toArray) _ h (fun a w h => h) (by simpa using hs)) hq hl
/-- A call of yield. -/
theorem it_yield {ops : Array Oper} {i q l : Nat} {o : Oper} {f x : Operand} {a : Act} {w : World} {v : Value} {Q : Exit → Act → World → Prop} {R : Ending → World → Prop} (ho : ops[i]? = some o) (hg : o.guard = none) {tys : Array TypeId}
    (hop : o.op = .call { callee := .value f, args := #[x], argTypes := tys }) (hf : a.eval f = .func (.yield l) #[] #[]) (hx : a.eval x = v) (hy : YieldAt Fence.wide 0 P l #[v] w R)
    (hR : ∀ e w', R e w' → ∃ b : Bool, e = .returned (.bool b) ∧ wpOpsIn Fence.wide 0 P ops Q (List.range' (i + 1) q) (a.put o.dst (.bool b)) w') : wpOpsIn Fence.wide 0 P ops Q (List.range' i (q + 1)) a w := by
  obtain ⟨fn, tmps, assign, body, h1, h2⟩ := hy
  rw [List.range'_succ]
  simp only [wpOpsIn, ho]
  rw [if_pos (by simp [Region.wanted, hg])]
  refine ⟨fun _ _ => trivial, ?_⟩
  rw [Oper.semAt_eq _ _ _ (by rw [hop]; intro c e; cases e)]
  have key : ∀ ρ : Operand → Value, ρ f = .func (.yield l) #[] #[] → ρ x = v → (execOp ρ o).run P w = .ok (.round l fn tmps assign body) w := fun ρ hf hx => by
    unfold execOp
    rw [hop]
    simp only [resolve, hf]
    simp [go_sem, invoke, hx, h1]
  have hrun := key _ hf hx
  rw [hrun]
  refine ⟨fun e => (by cases e), h2.mono fun e w' he => ?_⟩
  obtain ⟨b, rfl, h3⟩ := hR e w' he
  exact h3
/-- Behind a round that has said no more: nothing is known but plain numbers. -/
def keepC : V → V
  | .c x => .c x
  | _ => .junk
theorem SR.stop {B : Base} {cx : Cx} {a : Act} {w : World} (W' : World) (h : SR B n cx s σ a w) (hnd : B.nd = true) :
    SR (Base.it { cx with I := fun _ => False } W') n { cx with I := fun _ => False } ⟨fun t => keepC (s.t t), fun _ => none⟩ Hp.empty a W' := by
  have hd := h.nd hnd
  refine ⟨h.size, by rw [hd]; exact Marks.nil, fun _ => hd, fun t => ?_, ⟨fun g c hc => (by cases hc), fun k T es hk => (by cases hk), fun k k' x x' g hk => (by cases hk), fun k x g c hk => (by cases hk), fun g hg => (own_empty hg).elim, fun g hg => hg.elim⟩,
    ⟨fun d c hd => (by cases hd), fun d c hd => (by cases hd), fun d e c c' hd => (by cases hd)⟩, Base.it_Ext, fun k x hk => (by cases hk), fun g x hk => (by cases hk), fun g hs => hs.elim, fun g hs => hs.elim, fun d c hd => (by cases hd)⟩
  have ht := h.tmp t
  show TR W' _ (keepC (s.t t)) _
  generalize s.t t = v at ht
  generalize a.tmps.getD t undef = x at ht
  cases v with
  | c u => rw [ht.c_eq]; exact .v (.c u)
  | _ => exact .junk _
/-- The end of a function without results. -/
theorem SR.nothing {B : Base} {cx : Cx} {a : Act} {w : World} {fn : Func} (h : SR B n cx s σ a w) (hr : fn.results = #[]) : ∃ v, (results fn a.tmps).run P w = .ok v w := by
  obtain ⟨vs, ys, _, _, h5⟩ := resVs_run (P := P) (rs := []) (k := fun _ => True) h trivial
  exact ⟨_, results_run (rs := []) hr _ _ h5⟩
end
end Go.Abs
namespace Go.Abs
open Go Go.RowKit
section
variable {P : Program} {n : Nat} {s s' : St} {σ σ' : Hp} {B : Base} {cx cx' : Cx} {a a' : Act} {w w' : World}
/-- A round's base. -/
def Base.rnd (cx : Cx) (σ : Hp) (l : Nat → Option (List V)) (w : World) : Base :=
  { cx := cx, F := foot cx σ l, w := w, g := fun k => ∃ y, σ.gr k = some y, o := fun g => ∃ y, σ.obj g = some y, nd := true }
theorem SR.rebase (h : SR B n cx s σ a w) (hd : a.defers = []) : SR (Base.rnd cx σ s.l w) n cx s σ a w :=
  ⟨h.size, by rw [hd]; exact Marks.nil, fun _ => hd, h.tmp, h.heap, h.box, .refl _ _ _, fun k x hk => .inl ⟨x, hk⟩, fun g x hg => .inl ⟨x, hg⟩, fun g hs => hs.elim, fun g hs => hs.elim, fun d c _ hs => hs.elim⟩
/-- The round's frame, seen from the function's base. -/
theorem SR.compose (hB : B.plain) (hO : SR B n cx s σ a w) (hI : SR (Base.rnd cx σ s.l w) n cx' s' σ' a' w') : SR B n cx' s' σ' a' w' :=
  ⟨hI.size, by rw [hI.nd rfl]; exact Marks.nil, fun e => (by rw [hB.2] at e; cases e), hI.tmp, hI.heap, hI.box, hO.ext.trans hI.ext,
    fun k x hk => (hI.gnew k x hk).elim (fun ⟨y, hy⟩ => hO.gnew k y hy) (fun h1 => .inr (Nat.le_trans hO.ext.le.nm h1)),
    fun g x hk => (hI.onew g x hk).elim (fun ⟨y, hy⟩ => hO.onew g y hy) (fun h1 => .inr (Nat.le_trans hO.ext.size h1)),
    fun g hs => (hB.1 g hs).elim, fun g hs => (hB.1 g hs).elim, fun _ _ _ hs => (hB.1 _ hs).elim⟩
def plainS (s : St) : St := ⟨fun t => keepV (s.t t), fun _ => none⟩
theorem foot_none {g : Nat} {l : Nat → Option (List V)} (h : foot cx σ (fun _ => none) g) : foot cx σ l g := by
  rcases h with h | ⟨d, c, hd, _⟩
  · exact .inl h
  · cases hd
/-- The function's own frame, behind a round. -/
theorem SR.outer {s0 : St} (hB : B.plain) (hO : SR B n cx s0 σ a w) (hI : SR (Base.rnd cx σ s0.l w) n cx' s' σ' a' w') : SR B n cx' (plainS s0) σ' a w' := by
  have himm : ∀ g, cx.I g → w'.heap[g]? = w.heap[g]? := fun g hg => hI.ext.block g (hO.heap.ilt g hg) (hO.foot_apart hg)
  refine ⟨hO.size, (hO.defers.keep hI.ext).mono (fun g hg => foot_none hg) (fun g hg => .inl hg), hO.nd, fun t => keepV_TR (hO.tmp t) himm hI.ext.le, hI.heap, ⟨fun d c hd => (by cases hd), fun d c hd => (by cases hd), fun d e c c' hd => (by cases hd)⟩, ?_,
    fun k x hk => (hI.gnew k x hk).elim (fun ⟨y, hy⟩ => hO.gnew k y hy) (fun h1 => .inr (Nat.le_trans hO.ext.le.nm h1)),
    fun g x hk => (hI.onew g x hk).elim (fun ⟨y, hy⟩ => hO.onew g y hy) (fun h1 => .inr (Nat.le_trans hO.ext.size h1)),
    fun g hs => (hB.1 g hs).elim, fun g hs => (hB.1 g hs).elim, fun _ _ _ hs => (hB.1 _ hs).elim⟩
  have h := hO.ext.trans hI.ext
  exact ⟨h.os, h.tape, h.output, h.size, h.block, h.le, h.inew, fun g hg => h.fnew g (foot_none hg)⟩
theorem keepV_keepV (v : V) : keepV (keepV v) = keepV v := by cases v <;> rfl
/-- .. where the round's frame had boxes already. -/
theorem SR.outer2 {s0 s1 : St} {a1 : Act} (hB : B.plain) (hO : SR B n cx (plainS s0) σ a w) (hR : SR B n cx s1 σ a1 w) (hM : Marks cx (foot cx σ s1.l) B.w w a.defers) (hI : SR (Base.rnd cx σ s1.l w) n cx' s' σ' a' w') : SR B n cx' (plainS s0) σ' a w' := by
  have himm : ∀ g, cx.I g → w'.heap[g]? = w.heap[g]? := fun g hg => hI.ext.block g (hR.heap.ilt g hg) (hR.foot_apart hg)
  refine ⟨hO.size, (hM.keep hI.ext).mono (fun g hg => foot_none hg) (fun g hg => .inl hg), hO.nd, fun t => ?_, hI.heap, ⟨fun d c hd => (by cases hd), fun d c hd => (by cases hd), fun d e c c' hd => (by cases hd)⟩, ?_,
    fun k x hk => (hI.gnew k x hk).elim (fun ⟨y, hy⟩ => hO.gnew k y hy) (fun h1 => .inr (Nat.le_trans hO.ext.le.nm h1)),
    fun g x hk => (hI.onew g x hk).elim (fun ⟨y, hy⟩ => hO.onew g y hy) (fun h1 => .inr (Nat.le_trans hO.ext.size h1)),
    fun g hs => (hB.1 g hs).elim, fun g hs => (hB.1 g hs).elim, fun _ _ _ hs => (hB.1 _ hs).elim⟩
  · have := keepV_TR (hO.tmp t) himm hI.ext.le
    have e : keepV ((plainS s0).t t) = (plainS s0).t t := keepV_keepV _
    rw [e] at this; exact this
  · have h := hR.ext.trans hI.ext
    exact ⟨h.os, h.tape, h.output, h.size, h.block, h.le, h.inew, fun g hg => h.fnew g (foot_none hg)⟩
theorem plainS_plainS (s : St) : plainS (plainS s) = plainS s := by simp [plainS, keepV_keepV]
/-- New blocks came. -/
theorem SR.newBlocks {I' : Nat → Prop} (h : SR B n cx s σ a w) (hN : Newer w w') (hI : MoreI cx.I I' w w') : SR B n { cx with I := I' } s σ a w' :=
  h.grow ⟨hI.1, Nat.le_refl _, fun _ _ => rfl, fun _ _ => rfl⟩ rfl (fun g hg => hI.2 g hg) hN.os hN.tape hN.output hN.size hN.block
/-- How a round may be left. -/
def roundS (N : Hp → Prop) (X : Exit → Hp → Prop) : Exit → St → Hp → Prop
  | .normal, _, σ => N σ
  | .ret, _, σ => X .ret σ
  | .exit id, _, σ => X (.exit id) σ
  | _, _, _ => False
def jumpOf : Exit → Option Code
  | .ret => some .ret
  | .exit id => some (.exit id)
  | _ => none
/-- A block that is nobody's, kept in mind. -/
structure Free (B : Base) (cx : Cx) (σ : Hp) (l : Nat → Option (List V)) (w : World) (r : Nat) (o : Obj) : Prop where
  at' : w.heap[r]? = some o
  new : B.w.heap.size ≤ r
  foot : ¬ foot cx σ l r
  imm : ¬ cx.I r
theorem Free.keep {l l' : Nat → Option (List V)} {r : Nat} {o : Obj} (h : Free B cx σ l w r o) (hx : Ext cx (Abs.foot cx σ l) w cx' (Abs.foot cx' σ' l') w') : Free B cx' σ' l' w' r o :=
  have hlt := lt_of_block h.at'
  ⟨(hx.block r hlt h.foot).trans h.at', h.new, fun hf => (hx.fnew r hf).elim h.foot (fun hs => by omega), fun hi => (hx.inew r hi).elim h.imm (fun h6 => h6.elim h.foot (fun hs => by omega))⟩
theorem Free.bare {l : Nat → Option (List V)} {r : Nat} {o : Obj} (h : Free B cx σ l w r o) : Free B cx σ (fun _ => none) w r o := ⟨h.at', h.new, fun hf => h.foot (foot_none hf), h.imm⟩
theorem Free.newBlocks {l : Nat → Option (List V)} {r : Nat} {o : Obj} {I' : Nat → Prop} (h : Free B cx σ l w r o) (hN : Newer w w') (hI : MoreI cx.I I' w w') : Free B { cx with I := I' } σ l w' r o :=
  have hlt := lt_of_block h.at'
  ⟨(hN.block r hlt).trans h.at', h.new, h.foot, fun hi => (hI.2 r hi).elim h.imm (fun hs => by omega)⟩
theorem Free.put {l : Nat → Option (List V)} {r q : Nat} {o o' : Obj} (h : Free B cx σ l w r o) (hne : r ≠ q) : Free B cx σ l (w.putObj q o') r o := ⟨(World.putObj_heap_other hne).trans h.at', h.new, h.foot, h.imm⟩
theorem Free.set {l : Nat → Option (List V)} {r : Nat} {o : Obj} (o' : Obj) (h : Free B cx σ l w r o) : Free B cx σ l (w.putObj r o') r o' := ⟨World.putObj_heap_same (lt_of_block h.at'), h.new, h.foot, h.imm⟩
/-- Such a block may turn, if it is no mark's. -/
theorem SR.turnF {r : Nat} {o o' : Obj} (hB : B.plain) (h : SR B n cx s σ a w) (hf : Free B cx σ s.l w r o) (hno : ∀ ds, o ≠ .deferred ds) : SR B n cx s σ a (w.putObj r o') :=
  h.turn hB hf.new hf.foot hf.imm ⟨h.defers.1, fun d hd => by
    obtain ⟨D, h1, h2, h3, h4, h5⟩ := h.defers.2 d hd
    exact ⟨D, h1, h2, (World.putObj_heap_other (fun e => by rw [e, hf.at'] at h3; injection h3 with h3; exact hno _ h3)).trans h3, h4, h5⟩⟩
theorem SR.pushMark {D : Nat} (hB : B.plain) (h : SR B n cx s σ a w) (hf : Free B cx σ s.l w D (.deferred (some []))) (hm : ∀ d ∈ a.defers, d ≠ { target := .collected D, args := #[] }) : SR B n cx s σ { a with defers := { target := .collected D, args := #[] } :: a.defers } w :=
  ⟨h.size, ⟨List.pairwise_cons.2 ⟨fun x hx e => hm x hx e.symm, h.defers.1⟩, fun d hd => by
    rcases List.mem_cons.1 hd with rfl | hd
    · exact ⟨D, rfl, hf.new, hf.at', hf.foot, hf.imm⟩
    · exact h.defers.2 d hd⟩, fun e => (by rw [hB.2] at e; cases e), h.tmp, h.heap, h.box, h.ext, h.gnew, h.onew, h.stab, h.stN, h.stS⟩
variable {T : Tab} {Q : Exit → St → Hp → Prop}
theorem AW.rangeFunc {g : Operand} {p : Tmp} {assign body : Code} {f : FuncId} {caps xs : List V} (hg : ev s g = .fn (.func f) [] caps) (hit : Iter P f caps xs) (himm : ∀ v : V, v ∈ caps → Imm v) (hp : p < n)
    (I : Nat → Hp → Prop) (X : Exit → Hp → Prop) (h0 : I 0 σ)
    (hround : ∀ (r : Nat) (i : Nat) (v : V) (σ' : Hp), xs[i]? = some v → I i σ' →
      AWR P n (some r) assign (fun e s1 σ1 => e = .normal ∧ AWR P n (some r) body (roundS (I (i + 1)) X) s1 σ1) ((plainS s).put p v) σ')
    (hdone : ∀ σ', I xs.length σ' → Q .normal (plainS s) σ') (hret : ∀ σ', X .ret σ' → Q .ret (plainS s) σ') (hexit : ∀ id σ', X (.exit id) σ' → Q (.exit id) (plainS s) σ') :
    AW P n (.rangeFunc g #[p] assign body) Q s σ := fun B cx a w hB hsd h => by
  refine wpIn_wide (n := 0) |>.1 (wpIn_rangeFunc fun fn _ => ?_)
  have hgv := h.tr g
  rw [hg] at hgv
  obtain ⟨xs0, ys, hav, hys⟩ : ∃ xs0 ys : List Value, a.eval g = .func (.func f) ⟨xs0⟩ ⟨ys⟩ ∧ xs0 = [] ∧ VAs w cx caps ys := by
    generalize a.eval g = gv at hgv
    cases hgv with
    | v hgv =>
      cases hgv with
      | @fn _ _ _ xs1 ys1 hn h1 hm h2 => exact ⟨xs1, ys1, rfl, List.eq_nil_of_length_eq_zero hn.symm, hm, h2⟩
  obtain ⟨rfl, hys⟩ := hys
  have hBw : B.w.heap.size ≤ w.heap.size := h.ext.size
  obtain ⟨rec, hrec⟩ : ∃ rec : LoopState → Option Code → Loop, rec = fun st pe => { state := st, pending := pe, fn, tmps := a.tmps, params := #[p], assign, body, defers := w.heap.size } := ⟨_, rfl⟩
  obtain ⟨W1, hW1⟩ : ∃ W1, (w.alloc (.deferred (some []))).alloc (.loop (rec .ready none)) = W1 := ⟨_, rfl⟩
  have hsz1 : W1.heap.size = w.heap.size + 2 := by rw [← hW1]; simp
  have hL1 : W1.heap[w.heap.size + 1]? = some (.loop (rec .ready none)) := by
    rw [← hW1]; have := World.alloc_heap_new (w.alloc (.deferred (some []))) (.loop (rec .ready none)); rwa [World.size_alloc] at this
  have hK1 : W1.heap[w.heap.size]? = some (.deferred (some [])) := by
    rw [← hW1]; exact (Below.heap_alloc _ _ _ (by simp)).trans (World.alloc_heap_new w _)
  have hN1 : Newer w W1 := by
    refine ⟨by rw [← hW1]; rfl, by rw [← hW1]; rfl, by rw [← hW1]; rfl, by omega, fun g hg => ?_⟩
    rw [← hW1]; exact (Below.heap_alloc _ _ _ (by simp; omega)).trans (Below.heap_alloc _ _ _ hg)
  have h1 : SR B n cx s σ a W1 := h.newBlocks hN1 ⟨fun _ h => h, fun _ h => .inl h⟩
  have h1b : SR B n cx (plainS s) σ a W1 := by
    refine ⟨h1.size, h1.defers.mono (fun g hg => foot_none hg) (fun g hg => .inl hg), h1.nd, fun t => keepV_TR (h1.tmp t) (fun _ _ => rfl) (.refl _), h1.heap, ⟨fun d c hd => (by cases hd), fun d c hd => (by cases hd), fun d e c c' hd => (by cases hd)⟩, ?_, h1.gnew, h1.onew, h1.stab, h1.stN, fun d c hd => (by cases hd)⟩
    have he := h1.ext
    exact ⟨he.os, he.tape, he.output, he.size, he.block, he.le, he.inew, fun g hg => he.fnew g (foot_none hg)⟩
  have nof : ∀ r, w.heap.size ≤ r → ¬ foot cx σ (fun _ => none) r := fun r hr hf => by
    have := h.foot_lt (foot_none (l := s.l) hf); omega
  have noI : ∀ r, w.heap.size ≤ r → ¬ cx.I r := fun r hr hi => by have := h.heap.ilt r hi; omega
  have hFL : Free B cx σ (fun _ => none) W1 (w.heap.size + 1) (.loop (rec .ready none)) := ⟨hL1, by omega, nof _ (by omega), noI _ (by omega)⟩
  have hFD : Free B cx σ (fun _ => none) W1 w.heap.size (.deferred (some [])) := ⟨hK1, by omega, nof _ (by omega), noI _ (by omega)⟩
  have hmk : ∀ d ∈ a.defers, d ≠ { target := .collected w.heap.size, args := #[] } := fun d hd e => by
    obtain ⟨D, k1, _, k3, _⟩ := h.defers.2 d hd
    rw [k1] at e
    injection e with e1
    injection e1 with e1
    have := lt_of_block k3
    omega
  refine ⟨w.heap.size + 1, [{ target := .collected w.heap.size, args := #[] }], W1, { target := .fn (.func f) ⟨ys⟩, args := #[.func (.yield (w.heap.size + 1)) #[] #[]] }, W1, f,
    #[.func (.yield (w.heap.size + 1)) #[] #[]] ++ ⟨ys⟩, W1, ?_, ?_, fun _ _ => trivial, ?_, fun e => (by cases e), ?_⟩
  · rw [← hW1, hrec]; exact run_enterLoop_outer _ _ _ _ _
  · simp only [resolve, hav]
    simp [go_sem]
  · simp [invoke, go_sem, hit.1]
  · have hVA : VAs W1 (Cx.im cx.I) caps ys := ⟨hys.1, fun i v x hv hx => ((hys.2 i v x hv hx).keep (fun g hg => hN1.block g (h.heap.ilt g hg)) (.refl _)).toIm (himm v (List.mem_of_getElem? hv))⟩
    refine (hit.2 (w.heap.size + 1) W1 cx.I ys
      (fun i I' W => ∃ cx' σ', cx'.I = I' ∧ SR B n cx' (plainS s) σ' a W ∧ I i σ' ∧ Free B cx' σ' (fun _ => none) W (w.heap.size + 1) (.loop (rec .ready none)) ∧ Free B cx' σ' (fun _ => none) W w.heap.size (.deferred (some [])))
      (fun W => ∃ e c cx' σ', jumpOf e = some c ∧ X e σ' ∧ SR B n cx' (plainS s) σ' a W ∧ Free B cx' σ' (fun _ => none) W (w.heap.size + 1) (.loop (rec .done (some c))) ∧ Free B cx' σ' (fun _ => none) W w.heap.size (.deferred (some [])))
      hVA ?_ ?_ ?_ ?_ ⟨cx, σ, rfl, h1b, h0, hFL, hFD⟩).mono ?_
    · rintro i I' W ⟨cx', σ', rfl, k1, _⟩ g hg
      exact k1.heap.ilt g hg
    · rintro i I' W I'' W' ⟨cx', σ', rfl, k1, k2, k3, k4⟩ hN hM
      exact ⟨{ cx' with I := I'' }, σ', rfl, k1.newBlocks hN hM, k2, k3.newBlocks hN hM, k4.newBlocks hN hM⟩
    · rintro I' W I'' W' ⟨e, c, cx', σ', k0, k2, k1, k3, k4⟩ hN _
      have hM : MoreI cx'.I cx'.I W W' := ⟨fun _ h => h, fun _ h => .inl h⟩
      exact ⟨e, c, cx', σ', k0, k2, k1.newBlocks hN hM, k3.newBlocks hN hM, k4.newBlocks hN hM⟩
    · -- one round
      rintro i I' W v x ⟨cx', σ', rfl, k1, k2, k3, k4⟩ hv hx
      have hx' : VR W cx' v x := hx.ofIm (fun _ h => h)
      have hy := run_yield (P := P) (args := #[x]) k3.at' (by rw [hrec]; rfl)
      rw [hrec] at hy
      refine ⟨fn, _, assign, body, hy, roundIn_of_wpIn trivial ?_⟩
      have e0 : ((#[p].zip #[x]).foldl (fun tmps (t, a) => tmps.setIfInBounds t a) a.tmps) = a.tmps.setIfInBounds p x := by simp
      rw [e0]
      have r0 : SR B n cx' (plainS s) σ' { tmps := a.tmps, defers := [] } W := ⟨k1.size, Marks.nil, fun _ => rfl, k1.tmp, k1.heap, k1.box, k1.ext, k1.gnew, k1.onew, k1.stab, k1.stN, k1.stS⟩
      have r1 : SR (Base.rnd cx' σ' (plainS s).l W) n cx' ((plainS s).put p v) σ' { tmps := a.tmps.setIfInBounds p x, defers := [] } W := (r0.rebase rfl).put hp (.v hx')
      refine wpIn_mono (hround (w.heap.size + 1) i v σ' hv k2 _ _ _ _ (fun g hs => hs) rfl r1) ?_
      rintro e a1 w1 ⟨cx1, s1, σ1, r2, rfl, hbody⟩
      have f3 : Free B cx1 σ1 s1.l w1 (w.heap.size + 1) (.loop (rec .ready none)) := k3.keep r2.ext
      have f4 : Free B cx1 σ1 s1.l w1 w.heap.size (.deferred (some [])) := k4.keep r2.ext
      have o1 : SR B n cx1 (plainS (plainS s)) σ1 a w1 := k1.outer hB r2
      rw [plainS_plainS] at o1
      have r3 : SR B n cx1 s1 σ1 a1 w1 := r0.compose hB r2
      refine ⟨_, run_beginRound f3.at' (by rw [hrec]), ?_⟩
      have r4 := r3.turnF (o' := .loop { rec .ready none with state := .busy }) hB f3 (fun ds e => by cases e)
      have f5 := f3.set (.loop { rec .ready none with state := .busy })
      have f6 : Free B cx1 σ1 s1.l (w1.putObj (w.heap.size + 1) (.loop { rec .ready none with state := .busy })) w.heap.size (.deferred (some [])) := f4.put (by omega)
      have o2 : SR B n cx1 (plainS s) σ1 a (w1.putObj (w.heap.size + 1) (.loop { rec .ready none with state := .busy })) := o1.turnF hB f3.bare (fun ds e => by cases e)
      have hd1 : a1.defers = [] := r2.nd rfl
      have m1 := k1.defers.keep r2.ext
      have m2 : Marks cx1 (foot cx1 σ1 s1.l) B.w (w1.putObj (w.heap.size + 1) (.loop { rec .ready none with state := .busy })) a.defers := ⟨m1.1, fun d hd => by
        obtain ⟨D, h1, h2, h3, h4, h5⟩ := m1.2 d hd
        exact ⟨D, h1, h2, (World.putObj_heap_other (fun e => by rw [e, f3.at'] at h3; injection h3 with h3; cases h3)).trans h3, h4, h5⟩⟩
      have r5 := r4.rebase hd1
      -- the outer frame beside the round's boxes
      refine wpIn_mono (hbody _ _ _ _ (fun g hs => hs) rfl r5) ?_
      rintro e2 a2 w3 ⟨cx2, s2, σ2, r6, hq⟩
      have g3 := f5.keep r6.ext
      have g4 := f6.keep r6.ext
      have o3 : SR B n cx2 (plainS s) σ2 a w3 := by
        exact o2.outer2 hB r4 m2 r6
      have hImm : ∀ g, cx'.I g → cx2.I g ∧ w3.heap[g]? = W.heap[g]? := fun g hg => by
        have t1 : cx1.I g := r2.ext.le.I g hg
        have b1 : w1.heap[g]? = W.heap[g]? := r2.ext.block g (k1.heap.ilt g hg) (k1.foot_apart hg)
        have ne : g ≠ w.heap.size + 1 := fun e => k3.imm (by rw [← e]; exact hg)
        have b2 := (World.putObj_heap_other (w := w1) (o := .loop { rec .ready none with state := .busy }) ne).trans b1
        exact ⟨r6.ext.le.I g t1, (r6.ext.block g (r4.heap.ilt g t1) (r4.foot_apart t1)).trans b2⟩
      have fin : ∀ jump : Option Code, (Instr.endRound (w.heap.size + 1) jump).run P w3 = .ok (.bool jump.isNone) (w3.putObj (w.heap.size + 1) (.loop (rec (if jump.isNone then .ready else .done) jump))) := fun jump => by
        have := run_endRound (P := P) jump g3.at'
        rw [hrec] at this ⊢
        exact this
      have done : ∀ st pe, SR B n cx2 (plainS s) σ2 a (w3.putObj (w.heap.size + 1) (.loop (rec st pe))) ∧ Free B cx2 σ2 (fun _ => none) (w3.putObj (w.heap.size + 1) (.loop (rec st pe))) (w.heap.size + 1) (.loop (rec st pe)) ∧ Free B cx2 σ2 (fun _ => none) (w3.putObj (w.heap.size + 1) (.loop (rec st pe))) w.heap.size (.deferred (some [])) := fun st pe =>
        ⟨o3.turnF hB g3.bare (fun ds e => by cases e), g3.bare.set _, g4.bare.put (by omega)⟩
      cases e2 with
      | normal =>
        obtain ⟨d1, d2, d3⟩ := done .ready none
        refine ⟨_, _, fin none, .inl ⟨rfl, cx2.I, ⟨cx2, σ2, rfl, d1, hq, d2, d3⟩, fun g hg => ⟨(hImm g hg).1, ?_⟩⟩⟩
        exact (World.putObj_heap_other (fun e => k3.imm (by rw [← e]; exact hg))).trans (hImm g hg).2
      | ret =>
        obtain ⟨d1, d2, d3⟩ := done .done (some .ret)
        exact ⟨_, _, fin (some .ret), .inr ⟨rfl, .ret, .ret, cx2, σ2, rfl, hq, d1, d2, d3⟩⟩
      | exit id =>
        obtain ⟨d1, d2, d3⟩ := done .done (some (.exit id))
        exact ⟨_, _, fin (some (.exit id)), .inr ⟨rfl, .exit id, .exit id, cx2, σ2, rfl, hq, d1, d2, d3⟩⟩
      | goto t => exact hq.elim
      | panic c => exact hq.elim
      | outgrown => exact hq.elim
    · -- behind the iterator
      have last : ∀ {cx' : Cx} {σ' : Hp} {W : World} {st : LoopState} {pe : Option Code}, st ≠ .busy → SR B n cx' (plainS s) σ' a W → Free B cx' σ' (fun _ => none) W (w.heap.size + 1) (.loop (rec st pe)) → Free B cx' σ' (fun _ => none) W w.heap.size (.deferred (some [])) →
          ∃ W', (Instr.endLoop (w.heap.size + 1)).run P W = .ok pe W' ∧ SR B n cx' (plainS s) σ' { a with defers := { target := .collected w.heap.size, args := #[] } :: a.defers } W' := fun {cx' σ' W st pe} hst k1 k3 k4 => by
        have := run_endLoop (P := P) k3.at' (by rw [hrec]; exact hst)
        refine ⟨_, by rw [hrec] at this; exact this, ?_⟩
        exact (k1.turnF hB k3 (fun ds e => by cases e)).pushMark hB (k4.put (by omega)) hmk
      rintro e W2 ⟨⟨v, rfl⟩, (⟨I', cx', σ', _, k1, k2, k3, k4⟩ | ⟨e, c, cx', σ', k0, k2, k1, k3, k4⟩)⟩
      · obtain ⟨W', m1, m2⟩ := last (by decide) k1 k3 k4
        exact ⟨none, W', m1, ⟨cx', _, σ', m2, hdone σ' k2⟩⟩
      · obtain ⟨W', m1, m2⟩ := last (by decide) k1 k3 k4
        refine ⟨some c, W', m1, ?_⟩
        cases e with
        | ret => injection k0 with k0; subst k0; exact wpIn_ret ⟨cx', _, σ', m2, hret σ' k2⟩
        | exit id => injection k0 with k0; subst k0; exact wpIn_exit ⟨cx', _, σ', m2, hexit id σ' k2⟩
        | _ => cases k0
end
end Go.Abs
namespace Go.Abs
open Go
section
variable {P : Program} {σ : Hp} {cx : Cx} {w : World}
theorem delObj_sub (σ : Hp) (g : Nat) : (∀ x c, (σ.setObj g none).obj x = some c → σ.obj x = some c) ∧ (∀ k x, (σ.setObj g none).gr k = some x → σ.gr k = some x) :=
  ⟨fun x c h => by
    simp only [Hp.setObj] at h
    by_cases e : x = g
    · simp [e] at h
    · simpa [e] using h, fun _ _ h => h⟩
/-- An object, from now on written by nobody. -/
theorem HR.hush (h : HR cx σ w) {g : Nat} {cells : List V} (hg : σ.obj g = some cells) (hm : isMap cells = false) (_c : cells ≠ []) :
    HR (cx.addI g) (σ.setObj g none) w ∧ VR w (cx.addI g) (.ip [cells] 0 0) (.pointer (some ⟨g, 0, none⟩)) := by
  obtain ⟨o, ho, hor⟩ := h.obj g cells hg
  obtain ⟨T', cs, rfl, hvs⟩ := hor.row hm
  have sub : HR cx (σ.setObj g none) w := h.sub (delObj_sub σ g).1 (delObj_sub σ g).2
  have hno : ¬ (σ.setObj g none).own cx g := by
    rintro (⟨c, hc⟩ | ⟨j, x, hj, hb⟩)
    · simp [Hp.setObj] at hc
    · exact h.mix j x g cells hj hg hb
  refine ⟨sub.keep (cx.le_addI g) (fun _ => False) (fun _ h => h.elim) (fun _ h => h.elim) (fun g' (hg' : cx.I g' ∨ g' = g) ho => ?_) (fun g' (hg' : cx.I g' ∨ g' = g) => ?_) (fun _ _ _ => rfl), ?_⟩
  · rcases hg' with h1 | h1
    · exact sub.apart g' ho h1
    · exact hno (h1 ▸ ho)
  · rcases hg' with h1 | h1
    · exact h.ilt g' h1
    · rw [h1]; exact lt_of_block ho
  · have hvk := hvs.keep (w' := w) (cx' := cx.addI g) (fun _ _ => rfl) (cx.le_addI g)
    have := VR.ip (w := w) (cx := cx.addI g) (es := [cells]) (sz := cells.length) (b := g) (o := 0) (i := 0) (off := 0) (fun i j => cs.getD j undef) (.inr rfl) (by simp)
      (fun i e he => by
        rcases i with _ | i
        · simp at he; rw [← he]
        · simp at he)
      (fun i j hi hj => by
        have h0 : i = 0 := by simp at hi; exact hi
        subst h0
        have hjl : j < cs.length := by rw [← hvs.1]; exact hj
        simp [World.cell?, ho, List.getD, hjl])
      (fun i e j v he hv => by
        rcases i with _ | i
        · simp at he; subst he
          have hjl : j < cs.length := by rw [← hvs.1]; exact (List.getElem?_eq_some_iff.1 hv).1
          exact hvk.2.2 j v _ hv (by simp [List.getD, hjl])
        · simp at he)
      (fun i j hi hj => by
        have hjl : j < cs.length := by rw [← hvs.1]; exact hj
        exact hvs.2.1 _ (by simp only [List.getD, List.getElem?_eq_getElem hjl]; exact List.getElem_mem _))
    simpa using this
/-- A call whose result is a function over a variable of the call's own that nobody writes any more. -/
theorem ACalls.sealF {f : FuncId} {args : List V} {R R' : V → Hp → Prop} (h : ACalls P f args σ R)
    (hr : ∀ v σ', R v σ' → ∃ g cells F, v = .fn F [] [.c (.pointer (some ⟨g, 0, none⟩))] ∧ σ'.obj g = some cells ∧ isMap cells = false ∧ cells ≠ [] ∧ R' (.fn F [] [.ip [cells] 0 0]) (σ'.setObj g none)) : ACalls P f args σ R' := by
  refine ⟨h.1, fun cx w xs hH ha => (h.2 cx w xs hH ha).mono fun e w' ⟨v, r, cx', σ', h1, h2, h3, h4⟩ => ?_⟩
  obtain ⟨g, cells, F, rfl, hg, hm, hc, hR⟩ := hr v σ' h4
  obtain ⟨hH2, hip⟩ := h3.heap.hush hg hm hc
  have hsub : ∀ g', (σ'.setObj g none).own (cx'.addI g) g' → σ'.own cx' g' := fun g' hg' => by
    rcases hg' with ⟨c, hc⟩ | ⟨j, x, hj, hb⟩
    · exact .inl ⟨c, (delObj_sub σ' g).1 _ _ hc⟩
    · exact .inr ⟨j, x, hj, hb⟩
  have hfn : VR w' (cx'.addI g) (.fn F [] [.ip [cells] 0 0]) r := by
    cases h2 with
    | @fn _ _ _ xs1 ys1 hn h5 hl h6 =>
      obtain rfl : xs1 = [] := List.eq_nil_of_length_eq_zero hn.symm
      obtain ⟨y, rfl⟩ : ∃ y, ys1 = [y] := List.length_eq_one_iff.1 hl.symm
      have hy := h6 0 _ _ rfl rfl
      obtain rfl : y = .pointer (some ⟨g, 0, none⟩) := by cases hy; rfl
      refine .fn rfl (fun i v x hv => by cases hv) rfl (fun i v x hv hx => ?_)
      rcases i with _ | i
      · simp at hv hx; subst hv; subst hx; exact hip
      · simp at hv
  refine ⟨_, r, _, _, h1, hfn, ⟨hH2, ⟨h3.ext.os, h3.ext.tape, h3.ext.output, h3.ext.size, h3.ext.block, h3.ext.le.trans (cx'.le_addI g), fun g' (hg' : cx'.I g' ∨ g' = g) => ?_, fun g' hg' => h3.ext.fnew g' (hsub g' hg')⟩, fun k x hk => h3.gnew k x hk, fun g' x hx => h3.onew g' x ((delObj_sub σ' g).1 _ _ hx)⟩, hR⟩
  rcases hg' with hg' | rfl
  · exact h3.ext.inew g' hg'
  · rcases h3.ext.fnew g' (.inl ⟨_, hg⟩) with h | h
    · exact .inr (.inl h)
    · exact .inr (.inr h)
end
end Go.Abs
namespace Go.Abs
open Go
section
variable {P : Program} {σ : Hp}
/-- Two constants, told of as one. -/
theorem tup2_const {u v : Value} {w w' : World} {cx cx' : Cx} {x : Value} (h : VR w cx (.tup [.c u, .c v]) x) : VR w' cx' (.tup [.c u, .c v]) x := by
  cases h with
  | tup hn h =>
    rename_i xs
    refine .tup hn fun i y x hy hx => ?_
    have := h i y x hy hx
    rcases i with _ | _ | i
    · simp at hy; subst hy; cases this; exact .c _
    · simp at hy; subst hy; cases this; exact .c _
    · simp at hy
/-- A call of a reader of a growing list, whose result holds none. -/
theorem PCalls.lendT {f : FuncId} {args : List V} {R : V → Prop} {k : Nat} {T : TypeId × Nat} {es : List (List V)} (h : PCalls P f (args.map (fzV k es)) R) (hk : σ.gr k = some (T, es)) (hR : ∀ v, R v → ∃ a b, v = .tup [.c a, .c b]) :
    ACalls P f args σ (fun v σ' => σ' = σ ∧ R v) := by
  refine ⟨h.1, fun cx w xs hH ha => ?_⟩
  obtain ⟨cx1, hle, hL, hI, hH1, hv1⟩ := hH.freeze hk
  have ha1 : VAs w cx1 (args.map (fzV k es)) xs := ⟨by simpa using ha.1, fun i v x hi hx => by
    simp only [List.getElem?_map, Option.map_eq_some_iff] at hi
    obtain ⟨u, hu, rfl⟩ := hi
    exact fzV_VR hle hv1 (ha.2 i u x hu hx)⟩
  refine (h.2 cx1 w xs (hH1.sub (fun _ _ h => by cases h) (fun _ _ h => by cases h)) ha1).mono fun e w' ⟨v, r, cx2, σ2, h1, h2, h3, h4, h5⟩ => ?_
  subst h4
  obtain ⟨u, u', rfl⟩ := hR v h5
  have hb : ∀ g, g < w.heap.size → w'.heap[g]? = w.heap[g]? := fun g hg => h3.ext.block g hg own_empty
  exact ⟨_, r, cx, σ, h1, tup2_const h2, ⟨hH.new (.refl _) (fun g hg => .inl hg) h3.ext.size hb, ⟨h3.ext.os, h3.ext.tape, h3.ext.output, h3.ext.size, fun g hg _ => hb g hg, .refl _, fun g hg => .inl hg, fun g hg => .inl hg⟩, fun _ x hk => .inl ⟨x, hk⟩, fun _ x hk => .inl ⟨x, hk⟩⟩, rfl, h5⟩
end
end Go.Abs
namespace Go.Abs.M
open Go Go.Abs Go.Proofs
set_option linter.unusedSimpArgs false
/-- A number in n bits. -/
def lowB (u : Nat) : Nat → List Bool
  | 0 => []
  | n + 1 => (u / 2 ^ n % 2 == 1) :: lowB u n
theorem lowB_len (u : Nat) : ∀ n, (lowB u n).length = n
  | 0 => rfl
  | n + 1 => by rw [lowB, List.length_cons, lowB_len u n]
/-- The i-th bit is put to bytes that have place for it. -/
def putB (l : List Nat) (i : Nat) (b : Bool) : List Nat := if b then l.modify (i / 8) (· + 128 / 2 ^ (i % 8)) else l
def putsB : List Nat → Nat → List Bool → List Nat
  | l, _, [] => l
  | l, i, b :: bs => putsB (putB l i b) (i + 1) bs
def zerosB (n : Nat) : List Nat := List.replicate n 0
def packB (bs : List Bool) : List Nat := putsB (zerosB ((bs.length + 7) / 8)) 0 bs
end Go.Abs.M
namespace Go.Abs.M
open Go Go.Abs Go.Proofs
set_option maxRecDepth 20000
set_option linter.unusedSimpArgs false
set_option linter.unusedVariables false
def ptrV (g : Nat) : V := .c (.pointer (some ⟨g, 0, none⟩))
def skC (n : Nat) (v : V) : List V := [.c (.bool true), v, .c (.int .i64 n)]
/-- The list that a sink holds. -/
def skN (g : Nat) (σ : Hp) : Option Nat := match σ.obj g with | some [_, .gl k, _] => some k | _ => none
/-- A sink of some bits. -/
def Snk (g : Nat) (bs : List Bool) (σ : Hp) : Prop := (bs = [] ∧ σ.obj g = some (skC 0 (.c (.slice none 0 0)))) ∨ ∃ k, σ.obj g = some (skC bs.length (.gl k)) ∧ σ.gr k = some ((5, 1), (packB bs).map encB)
/-- What else there is stays. -/
structure Fr (g : Nat) (σ σ' : Hp) : Prop where
  obj : ∀ x c, x ≠ g → σ.obj x = some c → σ'.obj x = some c
  gr : ∀ k x, σ.gr k = some x → skN g σ ≠ some k → σ'.gr k = some x ∧ skN g σ' ≠ some k
theorem Fr.refl (g : Nat) (σ : Hp) : Fr g σ σ := ⟨fun _ _ _ h => h, fun _ _ h k => ⟨h, k⟩⟩
theorem Fr.trans {g : Nat} {a b c : Hp} (h : Fr g a b) (k : Fr g b c) : Fr g a c :=
  ⟨fun x d hx hd => k.obj x d hx (h.obj x d hx hd), fun n x hx hn => by
    obtain ⟨h1, h2⟩ := h.gr n x hx hn
    exact k.gr n x h1 h2⟩
/-- The next bit's place. -/
def InvB (l : List Nat) (i : Nat) : Prop := ∀ j x, l[j]? = some x → x < 256 ∧ (j = i / 8 → x % 2 ^ (8 - i % 8) = 0) ∧ (i / 8 < j → x = 0)
theorem byte_put : ∀ r : Nat, r < 8 → ∀ x : Nat, x < 256 → x % 2 ^ (8 - r) = 0 → x + 128 / 2 ^ r < 256 ∧ (x + 128 / 2 ^ r) % 2 ^ (7 - r) = 0 ∧ x % 2 ^ (7 - r) = 0 ∧ (BitVec.ofInt 8 (x : Int) ||| BitVec.ofInt 8 ((128 / 2 ^ r : Nat) : Int)).toNat = x + 128 / 2 ^ r := by decide +kernel
theorem InvB.put {l : List Nat} {i : Nat} (h : InvB l i) (b : Bool) : InvB (putB l i b) (i + 1) := by
  intro j x hx
  have key : ∀ y, l[j]? = some y → (x = y ∨ (j = i / 8 ∧ x = y + 128 / 2 ^ (i % 8))) → x < 256 ∧ (j = (i + 1) / 8 → x % 2 ^ (8 - (i + 1) % 8) = 0) ∧ ((i + 1) / 8 < j → x = 0) := fun y hy hxy => by
    obtain ⟨h1, h2, h3⟩ := h j y hy
    by_cases hj : j = i / 8
    · obtain ⟨k1, k2, k3, _⟩ := byte_put (i % 8) (Nat.mod_lt _ (by omega)) y h1 (h2 hj)
      have hp : x % 2 ^ (7 - i % 8) = 0 ∧ x < 256 := by
        rcases hxy with rfl | ⟨_, rfl⟩
        · exact ⟨k3, h1⟩
        · exact ⟨k2, k1⟩
      refine ⟨hp.2, fun e => ?_, fun e => by omega⟩
      rw [show 8 - (i + 1) % 8 = 7 - i % 8 by omega]; exact hp.1
    · have hxy : x = y := by rcases hxy with h | h; exact h; exact absurd h.1 hj
      subst hxy
      refine ⟨h1, fun e => ?_, fun e => h3 (by omega)⟩
      rw [h3 (by omega)]; exact Nat.zero_mod _
  unfold putB at hx
  split at hx
  · rw [List.getElem?_modify] at hx
    cases hl : l[j]? with
    | none => rw [hl] at hx; cases hx
    | some y =>
      rw [hl] at hx
      have hx : (if i / 8 = j then y + 128 / 2 ^ (i % 8) else y) = x := by simpa using hx
      refine key y hl ?_
      split at hx
      · rename_i e; exact .inr ⟨e.symm, hx.symm⟩
      · exact .inl hx.symm
  · exact key x hx (.inl rfl)
end Go.Abs.M
namespace Go.Abs.M
open Go Go.Abs Go.Proofs
set_option maxRecDepth 20000
set_option linter.unusedSimpArgs false
set_option linter.unusedVariables false
theorem Fr.grow {g : Nat} {σ : Hp} {ok : Option Nat} {k2 n : Nat} {x : (TypeId × Nat) × List (List V)} (ho : skN g σ = ok) (hk2 : (σ.delO ok).gr k2 = none) : Fr g σ (((σ.delO ok).setGr k2 (some x)).setObj g (some (skC n (.gl k2)))) := by
  refine ⟨fun y c hy hc => ?_, fun k y hk hn => ?_⟩
  · cases ok <;> simp [Hp.delO, hy, hc]
  · have hd : (σ.delO ok).gr k = some y := by
      cases ok with
      | none => exact hk
      | some q =>
        have : k ≠ q := fun e => hn (by rw [ho, e])
        simp [Hp.delO, this, hk]
    have hne : k ≠ k2 := fun e => by rw [e, hk2] at hd; cases hd
    refine ⟨by simp [hne, hd], ?_⟩
    simp [skN, skC]
    exact fun e => hne e.symm
end Go.Abs.M
namespace Go.Abs.M
open Go Go.Abs Go.Proofs
set_option maxRecDepth 20000
set_option linter.unusedSimpArgs false
set_option linter.unusedVariables false
theorem wrap_u64 {n : Nat} (h : n < 18446744073709551616) : IntKind.u64.wrap (n : Int) = n := by
  unfold IntKind.wrap
  simp [IntKind.signed, IntKind.bits]
  omega
theorem shr64 (u k : Nat) (h : k ≤ 64) : Int.fdiv (u : Int) ((2 : Int) ^ min k IntKind.u64.bits) = ((u / 2 ^ k : Nat) : Int) := by
  rw [show min k IntKind.u64.bits = k from Nat.min_eq_left h]
  rw [show ((2 : Int) ^ k) = ((2 ^ k : Nat) : Int) by simp]
  exact (Int.ofNat_fdiv u (2 ^ k)).symm
end Go.Abs.M
namespace Go.Abs.M
open Go Go.Abs Go.Proofs
set_option maxRecDepth 20000
set_option linter.unusedSimpArgs false
set_option linter.unusedVariables false
theorem Snk.obj {g : Nat} {bs : List Bool} {σ : Hp} (h : Snk g bs σ) : ∃ v, σ.obj g = some [.c (.bool true), v, .c (.int .i64 (bs.length : Nat))] := by
  rcases h with ⟨rfl, h⟩ | ⟨k, h, _⟩
  · exact ⟨_, h⟩
  · exact ⟨_, h⟩
end Go.Abs.M
namespace Go.Abs.M
open Go Go.Abs Go.Proofs
set_option maxRecDepth 20000
set_option linter.unusedSimpArgs false
set_option linter.unusedVariables false
theorem flat_len (l : List UInt8) : (l.flatMap fun b => lowB b.toNat 8).length = 8 * l.length := by
  induction l with
  | nil => rfl
  | cons b l ih => rw [List.flatMap_cons, List.length_append, ih, lowB_len, List.length_cons]; omega
end Go.Abs.M
namespace Go.Abs.M
open Go Go.Abs Go.Proofs
set_option maxRecDepth 20000
set_option linter.unusedSimpArgs false
set_option linter.unusedVariables false
theorem Snk.other {g o : Nat} {bs : List Bool} {σ : Hp} {x : Option (List V)} (h : Snk g bs σ) (ho : σ.obj o = none) : Snk g bs (σ.setObj o x) := by
  have hne : g ≠ o := fun e => by
    obtain ⟨v, hv⟩ := h.obj
    rw [e, ho] at hv; cases hv
  rcases h with ⟨h1, h2⟩ | ⟨k, h1, h2⟩
  · exact .inl ⟨h1, by simp [hne, h2]⟩
  · exact .inr ⟨k, by simp [hne, h1], by simp [h2]⟩
theorem Fr.other {g o : Nat} {σ : Hp} {x : Option (List V)} (ho : σ.obj o = none) (hg : g ≠ o) : Fr g σ (σ.setObj o x) := by
  refine ⟨fun y c hy hc => ?_, fun k y hk hn => ⟨by simp [hk], ?_⟩⟩
  · have : y ≠ o := fun e => by rw [e, ho] at hc; cases hc
    simp [this, hc]
  · unfold skN at hn ⊢
    simpa [hg] using hn
end Go.Abs.M
namespace Go.Abs.M
open Go Go.Abs Go.Proofs
set_option maxRecDepth 20000
set_option linter.unusedSimpArgs false
set_option linter.unusedVariables false
theorem Fr.at {g o : Nat} {σ σ' : Hp} {c : List V} (h : Fr g σ σ') (hne : o ≠ g) (hc : σ.obj o = some c) : σ'.obj o = some c := h.obj o c hne hc
end Go.Abs.M
namespace Go.Abs.M
open Go Go.Abs Go.Proofs
set_option maxRecDepth 20000
set_option linter.unusedSimpArgs false
set_option linter.unusedVariables false
theorem Fr.new {g o : Nat} {σ σ3 : Hp} {x : Option (List V)} (ho : σ.obj o = none) (hg : g ≠ o) (hgo : ∃ c, σ.obj g = some c) (hn : skN o (σ.setObj o x) = none) (hf : Fr o (σ.setObj o x) σ3) : Fr g σ σ3 := by
  refine ⟨fun y c hy hc => ?_, fun k y hk hnk => ?_⟩
  · have hyo : y ≠ o := fun e => by rw [e, ho] at hc; cases hc
    exact hf.obj y c hyo (by simp [hyo, hc])
  · obtain ⟨h1, h2⟩ := hf.gr k y (by simp [hk]) (by rw [hn]; exact fun e => by cases e)
    refine ⟨h1, ?_⟩
    obtain ⟨c, hc⟩ := hgo
    have : σ3.obj g = some c := hf.obj g c hg (by simp [hg, hc])
    unfold skN at hnk ⊢
    rw [hc] at hnk
    rw [this]; exact hnk
theorem Snk.ne {g o : Nat} {bs : List Bool} {σ : Hp} (h : Snk g bs σ) (ho : σ.obj o = none) : g ≠ o := fun e => by
  obtain ⟨v, hv⟩ := h.obj
  rw [e, ho] at hv; cases hv
end Go.Abs.M
namespace Go.Abs.M
open Go Go.Abs Go.Proofs
set_option maxRecDepth 20000
set_option linter.unusedSimpArgs false
set_option linter.unusedVariables false
def encT (b : Bool) : List V := [.c (.bool b)]
/-- A list of flags of the call's own. -/
def Own (bs : List Bool) (σ : Hp) (v : V) (σ' : Hp) : Prop := ∃ k, v = .gl k ∧ σ.gr k = none ∧ σ' = σ.setGr k (some ((4, 1), bs.map encT))
def Frz (bs : List Bool) (σ : Hp) (v : V) (σ' : Hp) : Prop := v = .sl (bs.map encT) ∧ σ' = σ
theorem Own.frz {f : FuncId} {args : List V} {bs : List Bool} {σ : Hp} (h : ACalls Try.prog f args σ (Own bs σ)) : ACalls Try.prog f args σ (Frz bs σ) :=
  h.freeze fun v σ' ⟨k, h1, h2, h3⟩ => ⟨k, (4, 1), bs.map encT, h1, by rw [h3]; simp, rfl, by rw [h3, Hp.setGr_setGr, Hp.setGr_none h2]⟩
end Go.Abs.M
namespace Go.Abs.M
open Go Go.Abs Go.Proofs
set_option maxRecDepth 20000
set_option linter.unusedSimpArgs false
set_option linter.unusedVariables false
theorem map2 (a b : V) : isMap [a, b] = false := by cases a <;> rfl
/-- The list that a set holds. -/
def stN (g : Nat) (σ : Hp) : Option Nat := match σ.obj g with | some [.gl k, _] => some k | _ => none
/-- A set of some rows. -/
def PSet (g : Nat) (rows : List (List Bd)) (σ : Hp) : Prop := (rows = [] ∧ σ.obj g = some [.c (.slice none 0 0), .c (.bool true)]) ∨ ∃ k, σ.obj g = some [.gl k, .c (.bool true)] ∧ σ.gr k = some ((24, 1), rows.map encP)
theorem PSet.ex {g : Nat} {rows : List (List Bd)} {σ : Hp} (h : PSet g rows σ) : ∃ lv, σ.obj g = some [lv, .c (.bool true)] := by
  rcases h with ⟨_, h⟩ | ⟨k, h, _⟩
  · exact ⟨_, h⟩
  · exact ⟨_, h⟩
theorem none_spec (g : Nat) (lv : V) (σ : Hp) (ho : σ.obj g = some [lv, .c (.bool true)]) : ACalls Try.prog 94 [ptrV g] σ (fun v σ' => v = .c (.bool false) ∧ σ' = σ) := by
  refine ACalls.intro Try.call94 Try.func94 rfl Try.ntmps94 Try.results94 (by simp) ?_
  refine AW.seq_k fun K1 h1 => ?_
  all_goals refine AW.reg0 ?_
  all_goals (refine S.g rfl rfl fun K' k' => ?_; simp only [zz, reduceIte, Nat.reduceEqDiff, Nat.reduceAdd]; refine k' _ _ ?_; clear k' K')
  all_goals refine S.nil ?_
  all_goals simp only [ze, reduceIte, Nat.reduceEqDiff, Nat.reduceLT, Nat.reduceLeDiff, Nat.reduceAdd, reduceCtorEq, Nat.reduceMul]
  all_goals apply_assumption
  refine AW.seq_k fun K2 h2 => ?_
  all_goals refine AW.reg0 ?_
  all_goals (refine S.g rfl rfl fun K' k' => ?_; simp only [zz, reduceIte, Nat.reduceEqDiff, Nat.reduceAdd, ptrV, un65, TypeDesc.pointer.injEq, ho, map2, List.getD_cons_succ, List.getD_cons_zero]; refine k' _ _ ?_; clear k' K')
  all_goals (refine S.g rfl rfl fun K' k' => ?_; simp only [zz, reduceIte, Nat.reduceEqDiff, Nat.reduceLT, Nat.reduceLeDiff, Nat.reduceAdd, reduceCtorEq, Nat.reduceMul, un65, ptrV, un65, TypeDesc.pointer.injEq, ho, map2, List.getD_cons_succ, List.getD_cons_zero]; refine S.bool fun b a4 => ?_; cases b <;> (try (exfalso; first | exact Bool.noConfusion a4 | (have h := of_decide_eq_true a4; omega) | (have h := of_decide_eq_false a4; omega))) <;> (refine k' _ _ ?_; clear k' K'))
  all_goals (refine S.g rfl rfl fun K' k' => ?_; simp only [zz, reduceIte, Nat.reduceEqDiff, Nat.reduceAdd, ptrV, un65, TypeDesc.pointer.injEq, ho, map2, List.getD_cons_succ, List.getD_cons_zero]; refine k' _ _ ?_; clear k' K')
  all_goals iterate 5 (first | (refine S.y rfl rfl rfl rfl fun K' k' => ?_; simp only [zz, reduceIte, Nat.reduceEqDiff, Nat.reduceLT, Nat.reduceLeDiff, Nat.reduceAdd, reduceCtorEq, Nat.reduceMul, of123_1, ok4, sz4, ag4, ptrV, un65, TypeDesc.pointer.injEq, ho, map2, List.getD_cons_succ, List.getD_cons_zero]; refine k' _ _ ?_; clear k' K') | ((first | refine S.x rfl rfl rfl rfl fun K' k' => ?_ | refine S.u rfl rfl rfl rfl fun K' k' => ?_); simp only [ze, reduceIte, Nat.reduceEqDiff]; refine k' _ _ ?_; clear k' K'))
  all_goals iterate 2 (refine S.g rfl rfl fun K' k' => ?_; simp only [zz, reduceIte, Nat.reduceEqDiff, Nat.reduceAdd, ptrV, un65, TypeDesc.pointer.injEq, ho, map2, List.getD_cons_succ, List.getD_cons_zero]; refine k' _ _ ?_; clear k' K')
  all_goals refine S.nil ?_
  all_goals simp only [ze, reduceIte, Nat.reduceEqDiff, Nat.reduceLT, Nat.reduceLeDiff, Nat.reduceAdd, reduceCtorEq, Nat.reduceMul, ptrV, un65, TypeDesc.pointer.injEq, ho, map2, List.getD_cons_succ, List.getD_cons_zero]
  all_goals apply_assumption
  all_goals refine AW.ret ?_
  all_goals simp only [zs, reduceIte, Nat.reduceEqDiff, Nat.reduceLT, Nat.reduceLeDiff, Nat.reduceAdd, reduceCtorEq, Nat.reduceMul]
theorem len_spec (g : Nat) (rows : List (List Bd)) (σ : Hp) (hs : PSet g rows σ) : ACalls Try.prog 45 [ptrV g] σ (fun v σ' => v = .c (.int .i64 (rows.length : Nat)) ∧ σ' = σ) := by
  refine ACalls.intro Try.call45 Try.func45 rfl Try.ntmps45 Try.results45 (by simp) ?_
  have hns := none_spec g _ σ hs.ex.choose_spec
  refine AW.seq_k fun K1 h1 => ?_
  all_goals refine AW.reg0 ?_
  all_goals (refine S.g rfl rfl fun K' k' => ?_; simp only [zz, reduceIte, Nat.reduceEqDiff, Nat.reduceAdd]; refine k' _ _ ?_; clear k' K')
  all_goals refine S.nil ?_
  all_goals simp only [ze, reduceIte, Nat.reduceEqDiff, Nat.reduceLT, Nat.reduceLeDiff, Nat.reduceAdd, reduceCtorEq, Nat.reduceMul]
  all_goals apply_assumption
  refine AW.seq_k fun K2 h2 => ?_
  refine AW.seq_k fun K3 h3 => ?_
  all_goals refine AW.reg0 ?_
  all_goals (refine S.g rfl rfl fun K' k' => ?_; simp only [zz, reduceIte, Nat.reduceEqDiff, Nat.reduceAdd, ptrV]; refine k' _ _ ?_; clear k' K')
  all_goals (refine S.g rfl rfl fun K' k' => ?_; simp only [zz, reduceIte, Nat.reduceEqDiff, Nat.reduceLT, Nat.reduceLeDiff, Nat.reduceAdd, reduceCtorEq, Nat.reduceMul, ptrV]; refine hns.to fun v σ2 hv => ?_; obtain ⟨rfl, rfl⟩ := hv <;> (refine k' _ _ ?_; clear k' K'))
  all_goals refine S.nil ?_
  all_goals simp only [ze, reduceIte, Nat.reduceEqDiff, Nat.reduceLT, Nat.reduceLeDiff, Nat.reduceAdd, reduceCtorEq, Nat.reduceMul, ptrV]
  all_goals apply_assumption
  refine AW.cond (b := false) (by simp [ev]) (fun hc => by cases hc) (fun hc => ?_)
  refine AW.skip ?_
  all_goals simp only [zs, reduceIte, Nat.reduceEqDiff, Nat.reduceLT, Nat.reduceLeDiff, Nat.reduceAdd, reduceCtorEq, Nat.reduceMul]
  all_goals apply_assumption
  rcases hs with ⟨rfl, ho⟩ | ⟨k, ho, hk⟩
  · refine AW.seq_k fun K4 h4 => ?_
    all_goals refine AW.reg0 ?_
    all_goals iterate 6 (refine S.g rfl rfl fun K' k' => ?_; simp only [zz, reduceIte, Nat.reduceEqDiff, Nat.reduceLT, Nat.reduceLeDiff, Nat.reduceAdd, reduceCtorEq, Nat.reduceMul, of123_0, ok64, sz64, ag64, sl64, el64, ok24, sz24, ag24, ptrV, ho, map2, List.getD_cons_succ, List.getD_cons_zero]; refine k' _ _ ?_; clear k' K')
    all_goals refine S.nil ?_
    all_goals simp only [ze, reduceIte, Nat.reduceEqDiff, Nat.reduceLT, Nat.reduceLeDiff, Nat.reduceAdd, reduceCtorEq, Nat.reduceMul, ptrV, ho, map2, List.getD_cons_succ, List.getD_cons_zero]
    all_goals apply_assumption
    refine AW.ret ?_
    all_goals simp only [zs, reduceIte, Nat.reduceEqDiff, Nat.reduceLT, Nat.reduceLeDiff, Nat.reduceAdd, reduceCtorEq, Nat.reduceMul]
  · refine AW.seq_k fun K5 h5 => ?_
    all_goals refine AW.reg0 ?_
    all_goals iterate 6 (refine S.g rfl rfl fun K' k' => ?_; simp only [zz, reduceIte, Nat.reduceEqDiff, Nat.reduceLT, Nat.reduceLeDiff, Nat.reduceAdd, reduceCtorEq, Nat.reduceMul, of123_0, ok64, sz64, ag64, sl64, el64, ok24, sz24, ag24, ptrV, ho, hk, map2, List.getD_cons_succ, List.getD_cons_zero, List.length_map]; refine k' _ _ ?_; clear k' K')
    all_goals refine S.nil ?_
    all_goals simp only [ze, reduceIte, Nat.reduceEqDiff, Nat.reduceLT, Nat.reduceLeDiff, Nat.reduceAdd, reduceCtorEq, Nat.reduceMul, ptrV, ho, hk, map2, List.getD_cons_succ, List.getD_cons_zero, List.length_map]
    all_goals apply_assumption
    refine AW.ret ?_
    all_goals simp only [zs, reduceIte, Nat.reduceEqDiff, Nat.reduceLT, Nat.reduceLeDiff, Nat.reduceAdd, reduceCtorEq, Nat.reduceMul]
/-- What a search finds. -/
def Found (rows : List (List Bd)) (x : List Bd) (v : V) : Prop := ∃ (i : Nat) (b : Bool), v = .tup [.c (.int .i64 (i : Nat)), .c (.bool b)] ∧ i ≤ rows.length ∧ AtL rows x i ∧ (b = true ↔ ∃ y, rows[i]? = some y ∧ cmpL y x = 0)
theorem encP_gd {rows : List (List Bd)} {i : Nat} {y : List Bd} (h : rows[i]? = some y) : (rows.map encP).getD i [] = [.sl (y.map encBd)] := by simp [List.getD, h, encP]
set_option maxHeartbeats 1000000 in
theorem search_spec (rows : List (List Bd)) (x : List Bd) (hs : SrtL rows) (hr : rows.length < 140737488355329) (hl : ∀ y ∈ rows, y.length < 4611686018427387904) :
    PCalls Try.prog 96 [.sl (rows.map encP), .agg [.sl (x.map encBd)], .fn (.func 28) [] []] (Found rows x) := by
  refine PCalls.intro Try.call96 Try.func96 rfl Try.ntmps96 Try.results96 (by simp) ?_
  refine AW.seq_k fun K1 h1 => ?_
  all_goals refine AW.reg0 ?_
  all_goals iterate 3 (refine S.g rfl rfl fun K' k' => ?_; simp only [zz, reduceIte, Nat.reduceEqDiff, Nat.reduceLT, Nat.reduceLeDiff, Nat.reduceAdd, reduceCtorEq, Nat.reduceMul, ok24, sz24, ag24]; refine k' _ _ ?_; clear k' K')
  all_goals refine S.nil ?_
  all_goals simp only [ze, reduceIte, Nat.reduceEqDiff, Nat.reduceLT, Nat.reduceLeDiff, Nat.reduceAdd, reduceCtorEq, Nat.reduceMul]
  all_goals apply_assumption
  refine AW.seq_k fun K2 h2 => ?_
  all_goals refine AW.reg0 ?_
  all_goals iterate 3 (refine S.g rfl rfl fun K' k' => ?_; simp only [zz, reduceIte, Nat.reduceEqDiff, Nat.reduceLT, Nat.reduceLeDiff, Nat.reduceAdd, reduceCtorEq, Nat.reduceMul, sl64, el64, ok24, sz24, ag24, List.length_map]; refine k' _ _ ?_; clear k' K')
  all_goals refine S.nil ?_
  all_goals simp only [ze, reduceIte, Nat.reduceEqDiff, Nat.reduceLT, Nat.reduceLeDiff, Nat.reduceAdd, reduceCtorEq, Nat.reduceMul, List.length_map]
  all_goals apply_assumption
  refine AW.seq_k fun K3 h3 => ?_
  all_goals refine AW.reg0 ?_
  all_goals iterate 3 (refine S.g rfl rfl fun K' k' => ?_; simp only [zz, reduceIte, Nat.reduceEqDiff, Nat.reduceAdd]; refine k' _ _ ?_; clear k' K')
  all_goals refine S.nil ?_
  all_goals simp only [ze, reduceIte, Nat.reduceEqDiff, Nat.reduceLT, Nat.reduceLeDiff, Nat.reduceAdd, reduceCtorEq, Nat.reduceMul]
  all_goals apply_assumption
  refine AW.seq_j (fun s σ => σ = Hp.empty ∧ s.t 4 = .lp 4 0 ∧ s.l 4 = some [.sl (x.map encBd)] ∧ s.t 0 = .sl (rows.map encP) ∧ s.t 2 = .fn (.func 28) [] [] ∧ s.t 8 = .c (.int .i64 (rows.length : Nat)) ∧ ∃ i : Nat, s.t 9 = .c (.int .i64 (i : Nat)) ∧ i ≤ rows.length ∧ AtL rows x i) ?_ ?_
  · refine AW.block ?_   -- 0
    refine AW.loop (fun m s σ => σ = Hp.empty ∧ s.t 4 = .lp 4 0 ∧ s.l 4 = some [.sl (x.map encBd)] ∧ s.t 0 = .sl (rows.map encP) ∧ s.t 2 = .fn (.func 28) [] [] ∧ s.t 8 = .c (.int .i64 (rows.length : Nat)) ∧ ∃ lo hi : Nat, m = hi - lo ∧ s.t 9 = .c (.int .i64 (lo : Nat)) ∧ s.t 10 = .c (.int .i64 (hi : Nat)) ∧ lo ≤ hi ∧ hi ≤ rows.length ∧ (∀ j y, rows[j]? = some y → j < lo → cmpL y x < 0) ∧ (∀ j y, rows[j]? = some y → hi ≤ j → 0 ≤ cmpL y x)) rows.length ?_ ?_
    · all_goals simp only [zs, reduceIte, Nat.reduceEqDiff, Nat.reduceLT, Nat.reduceLeDiff, Nat.reduceAdd, reduceCtorEq, Nat.reduceMul]
      refine ⟨0, rows.length, by omega, rfl, rfl, Nat.zero_le _, Nat.le_refl _, fun j y _ h => by omega, fun j y hy h => ?_⟩
      have := (List.getElem?_eq_some_iff.1 hy).1
      omega
    rintro m s σ ⟨rfl, e4, l4, e0, e2, e8, lo, hi, hm, e9, e10, hlh, hhr, hlo, hhi⟩
    refine AW.seq_k fun K4 h4 => ?_
    refine AW.seq_k fun K5 h5 => ?_
    all_goals refine AW.reg0 ?_
    all_goals iterate 3 (refine S.g rfl rfl fun K' k' => ?_; simp only [zz, reduceIte, Nat.reduceEqDiff, Nat.reduceAdd, e9, e10]; refine k' _ _ ?_; clear k' K')
    all_goals refine S.nil ?_
    all_goals simp only [ze, reduceIte, Nat.reduceEqDiff, Nat.reduceLT, Nat.reduceLeDiff, Nat.reduceAdd, reduceCtorEq, Nat.reduceMul, e9, e10]
    all_goals apply_assumption
    refine AW.cond (b := decide (lo < hi)) (by simp [ev]) (fun hc => ?_) (fun hc => ?_)
    · have hc := of_decide_eq_true hc
      refine AW.skip ?_
      all_goals simp only [zs, reduceIte, Nat.reduceEqDiff, Nat.reduceLT, Nat.reduceLeDiff, Nat.reduceAdd, reduceCtorEq, Nat.reduceMul]
      all_goals apply_assumption
      have hw1 : IntKind.i64.wrap ((lo : Int) + (hi : Int)) = ((lo + hi : Nat) : Int) := by rw [wrap_small _ (by omega) (by omega)]; rfl
      have hw2 : IntKind.u64.wrap ((lo + hi : Nat) : Int) = ((lo + hi : Nat) : Int) := wrap_u64 (by omega)
      have hsh := shr64 (lo + hi) 1 (by omega)
      have hw2b : IntKind.u64.wrap (((lo + hi) / 2 ^ 1 : Nat) : Int) = (((lo + hi) / 2 ^ 1 : Nat) : Int) := wrap_u64 (by omega)
      have hw3 : IntKind.i64.wrap (((lo + hi) / 2 ^ 1 : Nat) : Int) = (((lo + hi) / 2 ^ 1 : Nat) : Int) := wrap_small _ (by omega) (by omega)
      have hto : Int.toNat 1 = 1 := rfl
      have h01 : ((0 : Int) ≤ 1) = True := by simp
      obtain ⟨mid, hmid⟩ : ∃ mid, mid = (lo + hi) / 2 ^ 1 := ⟨_, rfl⟩
      rw [← hmid] at hsh hw2b hw3
      have hml : lo ≤ mid := by omega
      have hmh : mid < hi := by omega
      have hmr : mid < rows.length := by omega
      refine AW.block ?_   -- 1
      refine AW.seq_k fun K6 h6 => ?_
      all_goals refine AW.reg0 ?_
      all_goals iterate 7 (refine S.g rfl rfl fun K' k' => ?_; simp only [zz, reduceIte, Nat.reduceEqDiff, Nat.reduceAdd, cv3_130, cv130_3, e9, e10, hw1, hw2, hto, hsh, hw2b, hw3, h01, true_and]; refine k' _ _ ?_; clear k' K')
      all_goals refine S.nil ?_
      all_goals simp only [ze, reduceIte, Nat.reduceEqDiff, Nat.reduceLT, Nat.reduceLeDiff, Nat.reduceAdd, reduceCtorEq, Nat.reduceMul, e9, e10, hw1, hw2, hto, hsh, hw2b, hw3, h01, true_and]
      all_goals apply_assumption
      obtain ⟨y, hy⟩ : ∃ y, rows[mid]? = some y := ⟨_, List.getElem?_eq_getElem hmr⟩
      have hyl := hl y (List.mem_of_getElem? hy)
      have hye := encP_gd hy
      have hw4 : IntKind.i64.wrap ((mid : Int) + 1) = ((mid + 1 : Nat) : Int) := by rw [wrap_small _ (by omega) (by omega)]; rfl
      refine AW.seq_k fun K7 h7 => ?_
      all_goals refine AW.draw (T := { sd := fun d => d == 4 }) (fun _ _ h => by cases h) mixedO [(0, 0), (1, 0), (2, 0), (3, 0), (4, 1), (5, 1), (6, 2), (7, 0)] rfl (by kernel_rfl) (by kernel_rfl) ?_
      all_goals iterate 4 (refine D.g rfl trivial rfl rfl fun K' k' => ?_; simp only [zz, reduceIte, Nat.reduceEqDiff, Nat.reduceLT, Nat.reduceLeDiff, Nat.reduceAdd, reduceCtorEq, Nat.reduceMul, sl64, el64, ok24, sz24, ag24, e0, e2, e4, l4, List.length_map, hmr, hye]; refine k' _ _ ?_; clear k' K')
      all_goals iterate 2 (refine D.g rfl (by first | rfl | (simp only [stC, ze, reduceIte, Nat.reduceEqDiff, e0, e2, e4, l4, List.length_map, hmr, hye]; done) | (simp only [stC, ze, reduceIte, Nat.reduceEqDiff, e0, e2, e4, l4, List.length_map, hmr, hye]; rfl)) rfl rfl fun K' k' => ?_; simp only [zz, reduceIte, Nat.reduceEqDiff, Nat.reduceLT, Nat.reduceLeDiff, Nat.reduceAdd, reduceCtorEq, Nat.reduceMul, ok24, sz24, ag24, e0, e2, e4, l4, List.length_map, hmr, hye]; refine k' _ _ ?_; clear k' K')
      all_goals (refine D.g rfl trivial rfl rfl fun K' k' => ?_; simp only [zz, reduceIte, Nat.reduceEqDiff, Nat.reduceLT, Nat.reduceLeDiff, Nat.reduceAdd, reduceCtorEq, Nat.reduceMul, e0, e2, e4, l4, List.length_map, hmr, hye]; refine PCalls.eqto (compare_part y x hyl) ?_ <;> (refine k' _ _ ?_; clear k' K'))
      all_goals (refine D.g rfl trivial rfl rfl fun K' k' => ?_; simp only [zz, reduceIte, Nat.reduceEqDiff, Nat.reduceAdd, e0, e2, e4, l4, List.length_map, hmr, hye]; refine k' _ _ ?_; clear k' K')
      all_goals refine D.nil ?_
      all_goals simp only [ze, reduceIte, Nat.reduceEqDiff, Nat.reduceLT, Nat.reduceLeDiff, Nat.reduceAdd, reduceCtorEq, Nat.reduceMul, e0, e2, e4, l4, List.length_map, hmr, hye]
      all_goals apply_assumption
      refine AW.cond (b := decide (cmpL y x < 0)) (by simp [ev]) (fun hc2 => ?_) (fun hc2 => ?_)
      · have hc2 := of_decide_eq_true hc2
        all_goals refine AW.reg0 ?_
        all_goals iterate 3 (refine S.g rfl rfl fun K' k' => ?_; simp only [zz, reduceIte, Nat.reduceEqDiff, Nat.reduceAdd, hw4]; refine k' _ _ ?_; clear k' K')
        all_goals refine S.nil ?_
        all_goals simp only [ze, reduceIte, Nat.reduceEqDiff, Nat.reduceLT, Nat.reduceLeDiff, Nat.reduceAdd, reduceCtorEq, Nat.reduceMul, hw4]
        refine ⟨m - 1 - (mid - lo), by omega, ?_⟩
        all_goals simp only [zs, reduceIte, Nat.reduceEqDiff, Nat.reduceLT, Nat.reduceLeDiff, Nat.reduceAdd, reduceCtorEq, Nat.reduceMul, e0, e2, e4, l4, e8]
        refine ⟨mid + 1, hi, by omega, rfl, e10, by omega, hhr, fun j z hz hj => ?_, hhi⟩
        rcases Nat.lt_or_ge j mid with h | h
        · exact tri_L.lt_le (hs.get hz hy h) (by omega)
        · obtain rfl : j = mid := by omega
          rw [hy] at hz; injection hz with hz; subst hz; exact hc2
      · have hc2 := of_decide_eq_false hc2
        all_goals refine AW.reg0 ?_
        all_goals iterate 2 (refine S.g rfl rfl fun K' k' => ?_; simp only [zz, reduceIte, Nat.reduceEqDiff, Nat.reduceAdd]; refine k' _ _ ?_; clear k' K')
        all_goals refine S.nil ?_
        all_goals simp only [ze, reduceIte, Nat.reduceEqDiff, Nat.reduceLT, Nat.reduceLeDiff, Nat.reduceAdd, reduceCtorEq, Nat.reduceMul]
        refine ⟨mid - lo, by omega, ?_⟩
        all_goals simp only [zs, reduceIte, Nat.reduceEqDiff, Nat.reduceLT, Nat.reduceLeDiff, Nat.reduceAdd, reduceCtorEq, Nat.reduceMul, e0, e2, e4, l4, e8]
        refine ⟨lo, mid, by omega, e9, rfl, by omega, by omega, hlo, fun j z hz hj => ?_⟩
        rcases Nat.lt_or_ge mid j with h | h
        · by_cases k : 0 ≤ cmpL z x
          · exact k
          · have := tri_L.lt_le (hs.get hy hz h) (by omega : cmpL z x ≤ 0)
            omega
        · obtain rfl : j = mid := by omega
          rw [hy] at hz; injection hz with hz; subst hz; omega
    · have hc := of_decide_eq_false hc
      refine AW.exit ?_
      all_goals simp only [zs, reduceIte, Nat.reduceEqDiff, Nat.reduceLT, Nat.reduceLeDiff, Nat.reduceAdd, reduceCtorEq, Nat.reduceMul, e0, e2, e4, l4, e8, e9]
      obtain rfl : lo = hi := by omega
      exact ⟨lo, rfl, hhr, ⟨hlo, hhi⟩⟩
  rintro s σ ⟨rfl, e4, l4, e0, e2, e8, i, e9, hi, hat⟩
  refine AW.seq_k fun K8 h8 => ?_
  by_cases hin : i < rows.length
  · obtain ⟨y, hy⟩ : ∃ y, rows[i]? = some y := ⟨_, List.getElem?_eq_getElem hin⟩
    have hyl := hl y (List.mem_of_getElem? hy)
    have hye := encP_gd hy
    have hdt : decide ((i : Int) < (rows.length : Int)) = true := by simp; omega
    all_goals refine AW.draw (T := { sd := fun d => d == 4 }) (fun _ _ h => by cases h) mixedO [(0, 0), (1, 0), (2, 0), (3, 0), (4, 0), (5, 0), (6, 0), (7, 0), (8, 0), (9, 1), (10, 1), (11, 2), (12, 0), (13, 0), (14, 0), (15, 0)] rfl (by kernel_rfl) (by kernel_rfl) ?_
    all_goals iterate 3 (refine D.g rfl trivial rfl rfl fun K' k' => ?_; simp only [zz, reduceIte, Nat.reduceEqDiff, Nat.reduceAdd, e0, e2, e4, l4, e8, e9, hdt, List.length_map, hin, hye]; refine k' _ _ ?_; clear k' K')
    all_goals (refine D.g rfl trivial rfl rfl fun K' k' => ?_; simp only [zz, reduceIte, Nat.reduceEqDiff, Nat.reduceLT, Nat.reduceLeDiff, Nat.reduceAdd, reduceCtorEq, Nat.reduceMul, e0, e2, e4, l4, e8, e9, hdt, List.length_map, hin, hye]; refine S.bool fun b a38 => ?_; cases b <;> (try (exfalso; first | exact Bool.noConfusion a38 | (have h := of_decide_eq_true a38; omega) | (have h := of_decide_eq_false a38; omega))) <;> (refine k' _ _ ?_; clear k' K'))
    all_goals (refine D.g rfl trivial rfl rfl fun K' k' => ?_; simp only [zz, reduceIte, Nat.reduceEqDiff, Nat.reduceAdd, e0, e2, e4, l4, e8, e9, hdt, List.length_map, hin, hye]; refine k' _ _ ?_; clear k' K')
    all_goals iterate 4 (first | (refine D.y rfl trivial rfl rfl rfl rfl fun K' k' => ?_; simp only [zz, reduceIte, Nat.reduceEqDiff, Nat.reduceLT, Nat.reduceLeDiff, Nat.reduceAdd, reduceCtorEq, Nat.reduceMul, sl64, el64, ok24, sz24, ag24, e0, e2, e4, l4, e8, e9, hdt, List.length_map, hin, hye]; refine k' _ _ ?_; clear k' K') | ((first | refine D.x rfl (fun h => by cases h) rfl rfl rfl rfl fun K' k' => ?_ | refine D.u rfl (fun h => by cases h) rfl rfl rfl rfl fun K' k' => ?_); simp only [ze, reduceIte, Nat.reduceEqDiff]; refine k' _ _ ?_; clear k' K'))
    all_goals iterate 2 (first | (refine D.y rfl (by first | rfl | (simp only [stC, ze, reduceIte, Nat.reduceEqDiff, e0, e2, e4, l4, e8, e9, hdt, List.length_map, hin, hye]; done) | (simp only [stC, ze, reduceIte, Nat.reduceEqDiff, e0, e2, e4, l4, e8, e9, hdt, List.length_map, hin, hye]; rfl)) rfl rfl rfl rfl fun K' k' => ?_; simp only [zz, reduceIte, Nat.reduceEqDiff, Nat.reduceLT, Nat.reduceLeDiff, Nat.reduceAdd, reduceCtorEq, Nat.reduceMul, ok24, sz24, ag24, e0, e2, e4, l4, e8, e9, hdt, List.length_map, hin, hye]; refine k' _ _ ?_; clear k' K') | ((first | refine D.x rfl (fun _ => rfl) rfl rfl rfl rfl fun K' k' => ?_ | refine D.u rfl (fun _ => rfl) rfl rfl rfl rfl fun K' k' => ?_); simp only [ze, reduceIte, Nat.reduceEqDiff]; refine k' _ _ ?_; clear k' K'))
    all_goals (first | (refine D.y rfl trivial rfl rfl rfl rfl fun K' k' => ?_; simp only [zz, reduceIte, Nat.reduceEqDiff, Nat.reduceLT, Nat.reduceLeDiff, Nat.reduceAdd, reduceCtorEq, Nat.reduceMul, e0, e2, e4, l4, e8, e9, hdt, List.length_map, hin, hye]; refine PCalls.eqto (compare_part y x hyl) ?_ <;> (refine k' _ _ ?_; clear k' K')) | ((first | refine D.x rfl (fun h => by cases h) rfl rfl rfl rfl fun K' k' => ?_ | refine D.u rfl (fun h => by cases h) rfl rfl rfl rfl fun K' k' => ?_); simp only [ze, reduceIte, Nat.reduceEqDiff]; refine k' _ _ ?_; clear k' K'))
    all_goals (first | (refine D.y rfl trivial rfl rfl rfl rfl fun K' k' => ?_; simp only [zz, reduceIte, Nat.reduceEqDiff, Nat.reduceAdd, e0, e2, e4, l4, e8, e9, hdt, List.length_map, hin, hye]; refine k' _ _ ?_; clear k' K') | ((first | refine D.x rfl (fun h => by cases h) rfl rfl rfl rfl fun K' k' => ?_ | refine D.u rfl (fun h => by cases h) rfl rfl rfl rfl fun K' k' => ?_); simp only [ze, reduceIte, Nat.reduceEqDiff]; refine k' _ _ ?_; clear k' K'))
    all_goals iterate 3 (refine D.g rfl trivial rfl rfl fun K' k' => ?_; simp only [zz, reduceIte, Nat.reduceEqDiff, Nat.reduceAdd, e0, e2, e4, l4, e8, e9, hdt, List.length_map, hin, hye]; refine k' _ _ ?_; clear k' K')
    all_goals refine D.nil ?_
    all_goals simp only [ze, reduceIte, Nat.reduceEqDiff, Nat.reduceLT, Nat.reduceLeDiff, Nat.reduceAdd, reduceCtorEq, Nat.reduceMul, e0, e2, e4, l4, e8, e9, hdt, List.length_map, hin, hye]
    all_goals apply_assumption
    refine AW.ret ?_
    all_goals simp only [zs, reduceIte, Nat.reduceEqDiff, Nat.reduceLT, Nat.reduceLeDiff, Nat.reduceAdd, reduceCtorEq, Nat.reduceMul]
    refine ⟨i, _, rfl, hi, hat, ?_⟩
    rw [beq_iff_eq]
    refine ⟨fun h => ⟨y, hy, h⟩, ?_⟩
    rintro ⟨z, hz, h⟩
    rw [hy] at hz; injection hz with hz; subst hz; exact h
  · have hdt : decide ((i : Int) < (rows.length : Int)) = false := by simp; omega
    all_goals refine AW.draw (T := { sd := fun d => d == 4 }) (fun _ _ h => by cases h) mixedO [(0, 0), (1, 0), (2, 0), (3, 0), (4, 0), (5, 0), (6, 0), (7, 0), (8, 0), (9, 1), (10, 1), (11, 2), (12, 0), (13, 0), (14, 0), (15, 0)] rfl (by kernel_rfl) (by kernel_rfl) ?_
    all_goals iterate 3 (refine D.g rfl trivial rfl rfl fun K' k' => ?_; simp only [zz, reduceIte, Nat.reduceEqDiff, Nat.reduceAdd, e0, e2, e4, l4, e8, e9, hdt]; refine k' _ _ ?_; clear k' K')
    all_goals (refine D.g rfl trivial rfl rfl fun K' k' => ?_; simp only [zz, reduceIte, Nat.reduceEqDiff, Nat.reduceLT, Nat.reduceLeDiff, Nat.reduceAdd, reduceCtorEq, Nat.reduceMul, e0, e2, e4, l4, e8, e9, hdt]; refine S.bool fun b a38 => ?_; cases b <;> (try (exfalso; first | exact Bool.noConfusion a38 | (have h := of_decide_eq_true a38; omega) | (have h := of_decide_eq_false a38; omega))) <;> (refine k' _ _ ?_; clear k' K'))
    all_goals (refine D.g rfl trivial rfl rfl fun K' k' => ?_; simp only [zz, reduceIte, Nat.reduceEqDiff, Nat.reduceAdd, e0, e2, e4, l4, e8, e9, hdt]; refine k' _ _ ?_; clear k' K')
    all_goals iterate 4 (first | (refine D.y rfl trivial rfl rfl rfl rfl fun K' k' => ?_; simp only [zz, reduceIte, Nat.reduceEqDiff, Nat.reduceLT, Nat.reduceLeDiff, Nat.reduceAdd, reduceCtorEq, Nat.reduceMul, sl64, el64, ok24, sz24, ag24, e0, e2, e4, l4, e8, e9, hdt]; refine k' _ _ ?_; clear k' K') | ((first | refine D.x rfl (fun h => by cases h) rfl rfl rfl rfl fun K' k' => ?_ | refine D.u rfl (fun h => by cases h) rfl rfl rfl rfl fun K' k' => ?_); simp only [ze, reduceIte, Nat.reduceEqDiff]; refine k' _ _ ?_; clear k' K'))
    all_goals iterate 2 (first | (refine D.y rfl (by first | rfl | (simp only [stC, ze, reduceIte, Nat.reduceEqDiff, e0, e2, e4, l4, e8, e9, hdt]; done) | (simp only [stC, ze, reduceIte, Nat.reduceEqDiff, e0, e2, e4, l4, e8, e9, hdt]; rfl)) rfl rfl rfl rfl fun K' k' => ?_; simp only [zz, reduceIte, Nat.reduceEqDiff, Nat.reduceLT, Nat.reduceLeDiff, Nat.reduceAdd, reduceCtorEq, Nat.reduceMul, ok24, sz24, ag24, e0, e2, e4, l4, e8, e9, hdt]; refine k' _ _ ?_; clear k' K') | ((first | refine D.x rfl (fun _ => rfl) rfl rfl rfl rfl fun K' k' => ?_ | refine D.u rfl (fun _ => rfl) rfl rfl rfl rfl fun K' k' => ?_); simp only [ze, reduceIte, Nat.reduceEqDiff]; refine k' _ _ ?_; clear k' K'))
    all_goals (first | (refine D.y rfl trivial rfl rfl rfl rfl fun K' k' => ?_; simp only [zz, reduceIte, Nat.reduceEqDiff, Nat.reduceLT, Nat.reduceLeDiff, Nat.reduceAdd, reduceCtorEq, Nat.reduceMul, e0, e2, e4, l4, e8, e9, hdt]; refine PCalls.eqto (compare_part y x hyl) ?_ <;> (refine k' _ _ ?_; clear k' K')) | ((first | refine D.x rfl (fun h => by cases h) rfl rfl rfl rfl fun K' k' => ?_ | refine D.u rfl (fun h => by cases h) rfl rfl rfl rfl fun K' k' => ?_); simp only [ze, reduceIte, Nat.reduceEqDiff]; refine k' _ _ ?_; clear k' K'))
    all_goals (first | (refine D.y rfl trivial rfl rfl rfl rfl fun K' k' => ?_; simp only [zz, reduceIte, Nat.reduceEqDiff, Nat.reduceAdd, e0, e2, e4, l4, e8, e9, hdt]; refine k' _ _ ?_; clear k' K') | ((first | refine D.x rfl (fun h => by cases h) rfl rfl rfl rfl fun K' k' => ?_ | refine D.u rfl (fun h => by cases h) rfl rfl rfl rfl fun K' k' => ?_); simp only [ze, reduceIte, Nat.reduceEqDiff]; refine k' _ _ ?_; clear k' K'))
    all_goals iterate 3 (refine D.g rfl trivial rfl rfl fun K' k' => ?_; simp only [zz, reduceIte, Nat.reduceEqDiff, Nat.reduceAdd, e0, e2, e4, l4, e8, e9, hdt]; refine k' _ _ ?_; clear k' K')
    all_goals refine D.nil ?_
    all_goals simp only [ze, reduceIte, Nat.reduceEqDiff, Nat.reduceLT, Nat.reduceLeDiff, Nat.reduceAdd, reduceCtorEq, Nat.reduceMul, e0, e2, e4, l4, e8, e9, hdt]
    all_goals apply_assumption
    refine AW.ret ?_
    all_goals simp only [zs, reduceIte, Nat.reduceEqDiff, Nat.reduceLT, Nat.reduceLeDiff, Nat.reduceAdd, reduceCtorEq, Nat.reduceMul]
    refine ⟨i, false, rfl, hi, hat, ?_⟩
    simp only [Bool.false_eq_true, false_iff]
    rintro ⟨z, hz, _⟩
    exact hin (List.getElem?_eq_some_iff.1 hz).1
end Go.Abs.M
namespace Go.Abs.M
open Go Go.Abs Go.Proofs
set_option maxRecDepth 20000
set_option linter.unusedSimpArgs false
set_option linter.unusedVariables false
theorem search_set {g : Nat} {rows : List (List Bd)} {σ : Hp} {lv : V} (x : List Bd) (hs : PSet g rows σ) (ho : σ.obj g = some [lv, .c (.bool true)]) (ht : SrtL rows) (hr : rows.length < 140737488355329) (hl : ∀ y ∈ rows, y.length < 4611686018427387904) :
    okV lv = true ∧ ACalls Try.prog 96 [wk lv, .agg [.sl (x.map encBd)], .fn (.func 28) [] []] σ (fun v σ' => Found rows x v ∧ σ' = σ) := by
  have h := search_spec rows x ht hr hl
  rcases hs with ⟨rfl, h1⟩ | ⟨k, h1, hk⟩
  · rw [ho] at h1
    injection h1 with h1; injection h1 with h1 _; subst h1
    exact ⟨rfl, h.to fun v hv => ⟨hv, rfl⟩⟩
  · rw [ho] at h1
    injection h1 with h1; injection h1 with h1 _; subst h1
    refine ⟨rfl, (PCalls.lendT (R := Found rows x) (σ := σ) (k := k) (T := (24, 1)) (es := rows.map encP) (args := [.gl k, .agg [.sl (x.map encBd)], .fn (.func 28) [] []]) ?_ hk ?_).mono fun v σ' hv => ⟨hv.2, hv.1⟩⟩
    · have e : [V.gl k, .agg [.sl (x.map encBd)], .fn (.func 28) [] []].map (fzV k (rows.map encP)) = [.sl (rows.map encP), .agg [.sl (x.map encBd)], .fn (.func 28) [] []] := by simp [fzV, fz1]
      rw [e]; exact h
    · rintro v ⟨i, b, rfl, _⟩
      exact ⟨_, _, rfl⟩
theorem has_spec (g : Nat) (rows : List (List Bd)) (x : List Bd) (σ : Hp) (hs : PSet g rows σ) (ht : SrtL rows) (hr : rows.length < 140737488355329) (hl : ∀ y ∈ rows, y.length < 4611686018427387904) :
    ACalls Try.prog 44 [ptrV g, .agg [.sl (x.map encBd)]] σ (fun v σ' => v = .c (.bool (hasL rows x)) ∧ σ' = σ) := by
  refine ACalls.intro Try.call44 Try.func44 rfl Try.ntmps44 Try.results44 (by simp) ?_
  obtain ⟨lv, ho⟩ := hs.ex
  have hns := none_spec g _ σ ho
  have hsr := search_set x hs ho ht hr hl
  refine AW.seq_k fun K1 h1 => ?_
  all_goals refine AW.reg0 ?_
  all_goals iterate 2 (refine S.g rfl rfl fun K' k' => ?_; simp only [zz, reduceIte, Nat.reduceEqDiff, Nat.reduceLT, Nat.reduceLeDiff, Nat.reduceAdd, reduceCtorEq, Nat.reduceMul, ok24, sz24, ag24]; refine k' _ _ ?_; clear k' K')
  all_goals refine S.nil ?_
  all_goals simp only [ze, reduceIte, Nat.reduceEqDiff, Nat.reduceLT, Nat.reduceLeDiff, Nat.reduceAdd, reduceCtorEq, Nat.reduceMul]
  all_goals apply_assumption
  refine AW.seq_k fun K2 h2 => ?_
  refine AW.seq_k fun K3 h3 => ?_
  all_goals refine AW.reg0 ?_
  all_goals (refine S.g rfl rfl fun K' k' => ?_; simp only [zz, reduceIte, Nat.reduceEqDiff, Nat.reduceAdd, ptrV]; refine k' _ _ ?_; clear k' K')
  all_goals (refine S.g rfl rfl fun K' k' => ?_; simp only [zz, reduceIte, Nat.reduceEqDiff, Nat.reduceLT, Nat.reduceLeDiff, Nat.reduceAdd, reduceCtorEq, Nat.reduceMul, ptrV]; refine hns.to fun v σ2 hv => ?_; obtain ⟨rfl, rfl⟩ := hv <;> (refine k' _ _ ?_; clear k' K'))
  all_goals refine S.nil ?_
  all_goals simp only [ze, reduceIte, Nat.reduceEqDiff, Nat.reduceLT, Nat.reduceLeDiff, Nat.reduceAdd, reduceCtorEq, Nat.reduceMul, ptrV]
  all_goals apply_assumption
  refine AW.cond (b := false) (by simp [ev]) (fun hc => by cases hc) (fun hc => ?_)
  refine AW.skip ?_
  all_goals simp only [zs, reduceIte, Nat.reduceEqDiff, Nat.reduceLT, Nat.reduceLeDiff, Nat.reduceAdd, reduceCtorEq, Nat.reduceMul]
  all_goals apply_assumption
  refine AW.seq_k fun K4 h4 => ?_
  all_goals refine AW.drawF (T := { sd := fun d => d == 3 }) (fun _ _ h => by cases h) mixedO (.st 0 0 (.st 1 0 (.st 2 0 (.st 4 1 (.st 3 2 (.st 5 2 (.st 6 0 (.st 7 0 (.st 8 0 (.st 9 0 (.st 10 0 .nil))))))))))) rfl (by kernel_rfl) (by kernel_rfl) ?_
  all_goals iterate 3 (refine F.g rfl trivial rfl rfl fun K' k' => ?_; simp only [zz, reduceIte, Nat.reduceEqDiff, Nat.reduceLT, Nat.reduceLeDiff, Nat.reduceAdd, reduceCtorEq, Nat.reduceMul, of123_0, ptrV, ho, map2, List.getD_cons_zero]; refine k' _ _ ?_; clear k' K')
  all_goals (refine F.g rfl (by first | rfl | (simp only [stC, ze, reduceIte, Nat.reduceEqDiff, ptrV, ho, map2, List.getD_cons_zero]; done) | (simp only [stC, ze, reduceIte, Nat.reduceEqDiff, ptrV, ho, map2, List.getD_cons_zero]; rfl)) rfl rfl fun K' k' => ?_; simp only [zz, reduceIte, Nat.reduceEqDiff, Nat.reduceLT, Nat.reduceLeDiff, Nat.reduceAdd, reduceCtorEq, Nat.reduceMul, ok24, sz24, ag24, ptrV, ho, map2, List.getD_cons_zero]; refine k' _ _ ?_; clear k' K')
  all_goals (refine F.g rfl trivial rfl rfl fun K' k' => ?_; simp only [zz, reduceIte, Nat.reduceEqDiff, Nat.reduceLT, Nat.reduceLeDiff, Nat.reduceAdd, reduceCtorEq, Nat.reduceMul, ok64, sz64, ag64, ptrV, ho, map2, List.getD_cons_zero]; refine k' _ _ ?_; clear k' K')
  all_goals (refine F.g rfl trivial rfl rfl fun K' k' => ?_; simp only [zz, reduceIte, Nat.reduceEqDiff, Nat.reduceLT, Nat.reduceLeDiff, Nat.reduceAdd, reduceCtorEq, Nat.reduceMul, ptrV, ho, map2, List.getD_cons_zero]; refine ⟨hsr.1, hsr.2.to fun v σ2 hv => ?_⟩; obtain ⟨⟨i, b, rfl, hi, hat, hb⟩, rfl⟩ := hv <;> (refine k' _ _ ?_; clear k' K'))
  all_goals iterate 5 (refine F.g rfl trivial rfl rfl fun K' k' => ?_; simp only [zz, reduceIte, Nat.reduceEqDiff, Nat.reduceLT, Nat.reduceLeDiff, Nat.reduceAdd, reduceCtorEq, Nat.reduceMul, ptrV, ho, map2, List.getD_cons_zero]; refine k' _ _ ?_; clear k' K')
  all_goals refine F.nil ?_
  all_goals simp only [ze, reduceIte, Nat.reduceEqDiff, Nat.reduceLT, Nat.reduceLeDiff, Nat.reduceAdd, reduceCtorEq, Nat.reduceMul, ptrV, ho, map2, List.getD_cons_zero]
  all_goals apply_assumption
  refine AW.seq_k fun K5 h5 => ?_
  all_goals refine AW.reg0 ?_
  all_goals iterate 2 (refine S.g rfl rfl fun K' k' => ?_; simp only [zz, reduceIte, Nat.reduceEqDiff, Nat.reduceAdd]; refine k' _ _ ?_; clear k' K')
  all_goals refine S.nil ?_
  all_goals simp only [ze, reduceIte, Nat.reduceEqDiff, Nat.reduceLT, Nat.reduceLeDiff, Nat.reduceAdd, reduceCtorEq, Nat.reduceMul]
  all_goals apply_assumption
  refine AW.ret ?_
  all_goals simp only [zs, reduceIte, Nat.reduceEqDiff, Nat.reduceLT, Nat.reduceLeDiff, Nat.reduceAdd, reduceCtorEq, Nat.reduceMul]
  have : b = hasL rows x := by
    rw [Bool.eq_iff_iff, hb, hat.has ht]
  rw [this]
end Go.Abs.M
namespace Go.Abs.M
open Go Go.Abs Go.Proofs
set_option maxRecDepth 20000
set_option linter.unusedSimpArgs false
set_option linter.unusedVariables false
/-- What else there is stays. -/
structure PFr (g : Nat) (σ σ' : Hp) : Prop where
  obj : ∀ x, x ≠ g → σ'.obj x = σ.obj x
  gr : ∀ k x, σ.gr k = some x → stN g σ ≠ some k → σ'.gr k = some x ∧ stN g σ' ≠ some k
theorem PFr.refl (g : Nat) (σ : Hp) : PFr g σ σ := ⟨fun _ _ => rfl, fun _ _ h k => ⟨h, k⟩⟩
theorem PFr.trans {g : Nat} {a b c : Hp} (h : PFr g a b) (k : PFr g b c) : PFr g a c :=
  ⟨fun x hx => (k.obj x hx).trans (h.obj x hx), fun n x hx hn => by
    obtain ⟨h1, h2⟩ := h.gr n x hx hn
    exact k.gr n x h1 h2⟩
theorem delO_obj (σ : Hp) (ok : Option Nat) : (σ.delO ok).obj = σ.obj := by cases ok <;> rfl
/-- A row put into a set's list. -/
theorem insert_set {σ : Hp} {lv : V} {ok : Option Nat} {rows : List (List Bd)} {x : List Bd} {i k3 : Nat} (hd : dstE σ 24 1 lv = some (ok, rows.map encP)) (hf : σ.gr k3 = none) (hi : i ≤ rows.length) (hn : (rows.length + 1) * 24 ≤ 140737488355328) :
    ACalls Try.prog 97 [lv, .c (.int .i64 (i : Nat)), .gl k3] (σ.setGr k3 (some ((24, 1), [[.sl (x.map encBd)]]))) (fun v σ' => ∃ k', v = .gl k' ∧ σ'.obj = σ.obj ∧ σ'.gr k' = some ((24, 1), (rows.take i ++ x :: rows.drop i).map encP) ∧
      ∀ k y, σ.gr k = some y → ok ≠ some k → σ'.gr k = some y ∧ k' ≠ k) := by
  have hok : ok ≠ some k3 := fun e => by
    subst e
    unfold dstE at hd
    split at hd
    · cases hd
    · split at hd
      · rename_i hg
        split at hd
        · injection hd with hd; injection hd with hd _; injection hd with hd; subst hd; rw [hf] at hg; cases hg
        · cases hd
      · cases hd
    · cases hd
  have hd' : dstE (σ.setGr k3 (some ((24, 1), [[.sl (x.map encBd)]]))) 24 1 lv = some (ok, rows.map encP) := by
    rw [← hd]
    unfold dstE
    split
    · rfl
    · rename_i k
      by_cases e : k = k3
      · subst e
        unfold dstE at hd
        simp only [hf] at hd
        cases hd
      · simp [Hp.setGr, e]
    · rfl
  refine (insert_at hd' (k3 := k3) (x := .sl (x.map encBd)) (by simp [Hp.setGr]) hok (by simpa using hi) (by simpa using hn)).mono fun v σ' ⟨k', e1, e2, e3⟩ => ⟨k', e1, ?_, ?_, fun k y hk hko => ?_⟩
  · rw [e3, Hp.setGr, delO_obj]; rfl
  · rw [e3]
    simp [Hp.setGr, encP]
  · have h1 : ((σ.setGr k3 (some ((24, 1), [[.sl (x.map encBd)]]))).delO ok).gr k = some y := by
      have hk3 : k ≠ k3 := fun e => by rw [e, hf] at hk; cases hk
      cases ok with
      | none => simp [Hp.delO, Hp.setGr, hk3, hk]
      | some j =>
        have : k ≠ j := fun e => hko (by rw [e])
        simp [Hp.delO, Hp.setGr, hk3, hk, this]
    have hne : k ≠ k' := fun e => by rw [e, e2] at h1; cases h1
    refine ⟨?_, fun e => hne e.symm⟩
    rw [e3]
    simp [Hp.setGr, hne]
    exact h1
theorem PSet.dst {g : Nat} {rows : List (List Bd)} {σ : Hp} (h : PSet g rows σ) : ∃ lv, σ.obj g = some [lv, .c (.bool true)] ∧ okV lv = true ∧ dstE σ 24 1 lv = some (stN g σ, rows.map encP) := by
  rcases h with ⟨rfl, h⟩ | ⟨k, h, hk⟩
  · exact ⟨_, h, rfl, by simp [dstE, stN, h]⟩
  · exact ⟨_, h, rfl, by simp [dstE, stN, h, hk]⟩
theorem PSet.put {g : Nat} {rows rows' : List (List Bd)} {σ σ' : Hp} {b : V} {k' : Nat} (ho : σ'.obj = σ.obj) (hk : σ'.gr k' = some ((24, 1), rows'.map encP)) (hf : ∀ k y, σ.gr k = some y → stN g σ ≠ some k → σ'.gr k = some y ∧ k' ≠ k) :
    PSet g rows' (σ'.setObj g (some [.gl k', .c (.bool true)])) ∧ PFr g σ (σ'.setObj g (some [.gl k', .c (.bool true)])) := by
  refine ⟨.inr ⟨k', by simp, by simpa using hk⟩, ⟨fun x hx => by simp [hx, ho], fun k x h1 h2 => ?_⟩⟩
  obtain ⟨h3, h4⟩ := hf k x h1 h2
  refine ⟨by simpa using h3, ?_⟩
  simp only [stN, Hp.setObj_obj, if_true]
  exact fun e => h4 (by injection e)
end Go.Abs.M
namespace Go.Abs.M
open Go Go.Abs Go.Proofs
set_option maxRecDepth 20000
set_option linter.unusedSimpArgs false
set_option linter.unusedVariables false
def freshL (rows : List (List Bd)) (x : List Bd) : Bool := decide (partErr x = 0) && !hasL rows x
theorem neq0 (n : Int) : (n != 0) = !decide (n = 0) := by
  by_cases h : n = 0
  · simp [h]
  · simp [h]
set_option maxHeartbeats 2000000 in
theorem add_spec (g : Nat) (rows : List (List Bd)) (x : List Bd) (σ : Hp) (hs : PSet g rows σ) (ht : SrtL rows) (hn : (rows.length + 1) * 24 ≤ 140737488355328) (hl : ∀ y ∈ rows, y.length < 4611686018427387904) (hx : okI x) :
    ACalls Try.prog 51 [ptrV g, .agg [.sl (x.map encBd)]] σ (fun v σ' => v = .c (.bool (freshL rows x)) ∧ PSet g (addL rows x) σ' ∧ PFr g σ σ') := by
  refine ACalls.intro Try.call51 Try.func51 rfl Try.ntmps51 Try.results51 (by simp) ?_
  obtain ⟨lv, ho, hlv, hd⟩ := hs.dst
  have hns := none_spec g _ σ ho
  have hsr := search_set x hs ho ht (by omega) hl
  refine AW.seq_k fun K1 h1 => ?_
  all_goals refine AW.reg0 ?_
  all_goals iterate 2 (refine S.g rfl rfl fun K' k' => ?_; simp only [zz, reduceIte, Nat.reduceEqDiff, Nat.reduceLT, Nat.reduceLeDiff, Nat.reduceAdd, reduceCtorEq, Nat.reduceMul, ok24, sz24, ag24]; refine k' _ _ ?_; clear k' K')
  all_goals refine S.nil ?_
  all_goals simp only [ze, reduceIte, Nat.reduceEqDiff, Nat.reduceLT, Nat.reduceLeDiff, Nat.reduceAdd, reduceCtorEq, Nat.reduceMul]
  all_goals apply_assumption
  refine AW.seq_k fun K2 h2 => ?_
  refine AW.seq_k fun K3 h3 => ?_
  all_goals refine AW.reg0 ?_
  all_goals (refine S.g rfl rfl fun K' k' => ?_; simp only [zz, reduceIte, Nat.reduceEqDiff, Nat.reduceAdd, ptrV, neq0]; refine k' _ _ ?_; clear k' K')
  all_goals (refine S.g rfl rfl fun K' k' => ?_; simp only [zz, reduceIte, Nat.reduceEqDiff, Nat.reduceLT, Nat.reduceLeDiff, Nat.reduceAdd, reduceCtorEq, Nat.reduceMul, ptrV, neq0]; refine hns.to fun v σ2 hv => ?_; obtain ⟨rfl, rfl⟩ := hv; refine S.bool fun b a8 => ?_; cases b <;> (try (exfalso; first | exact Bool.noConfusion a8 | (have h := of_decide_eq_true a8; omega) | (have h := of_decide_eq_false a8; omega))) <;> (refine k' _ _ ?_; clear k' K'))
  all_goals (refine S.g rfl rfl fun K' k' => ?_; simp only [zz, reduceIte, Nat.reduceEqDiff, Nat.reduceAdd, ptrV, neq0]; refine k' _ _ ?_; clear k' K')
  all_goals (first | (refine S.y rfl rfl rfl rfl fun K' k' => ?_; simp only [zz, reduceIte, Nat.reduceEqDiff, Nat.reduceLT, Nat.reduceLeDiff, Nat.reduceAdd, reduceCtorEq, Nat.reduceMul, ok24, sz24, ag24, ptrV, neq0]; refine k' _ _ ?_; clear k' K') | ((first | refine S.x rfl rfl rfl rfl fun K' k' => ?_ | refine S.u rfl rfl rfl rfl fun K' k' => ?_); simp only [ze, reduceIte, Nat.reduceEqDiff]; refine k' _ _ ?_; clear k' K'))
  all_goals (first | (refine S.y rfl rfl rfl rfl fun K' k' => ?_; simp only [zz, reduceIte, Nat.reduceEqDiff, Nat.reduceLT, Nat.reduceLeDiff, Nat.reduceAdd, reduceCtorEq, Nat.reduceMul, ptrV, neq0]; refine PCalls.eqto (check_part x hx.ok) ?_ <;> (refine k' _ _ ?_; clear k' K')) | ((first | refine S.x rfl rfl rfl rfl fun K' k' => ?_ | refine S.u rfl rfl rfl rfl fun K' k' => ?_); simp only [ze, reduceIte, Nat.reduceEqDiff]; refine k' _ _ ?_; clear k' K'))
  all_goals (first | (refine S.y rfl rfl rfl rfl fun K' k' => ?_; simp only [zz, reduceIte, Nat.reduceEqDiff, Nat.reduceAdd, ptrV, neq0]; refine k' _ _ ?_; clear k' K') | ((first | refine S.x rfl rfl rfl rfl fun K' k' => ?_ | refine S.u rfl rfl rfl rfl fun K' k' => ?_); simp only [ze, reduceIte, Nat.reduceEqDiff]; refine k' _ _ ?_; clear k' K'))
  all_goals (refine S.g rfl rfl fun K' k' => ?_; simp only [zz, reduceIte, Nat.reduceEqDiff, Nat.reduceAdd, ptrV, neq0]; refine k' _ _ ?_; clear k' K')
  all_goals refine S.nil ?_
  all_goals simp only [ze, reduceIte, Nat.reduceEqDiff, Nat.reduceLT, Nat.reduceLeDiff, Nat.reduceAdd, reduceCtorEq, Nat.reduceMul, ptrV, neq0]
  all_goals apply_assumption
  refine AW.cond (b := !decide (partErr x = 0)) (by simp [ev]) (fun hc => ?_) (fun hc => ?_)
  · have hc : ¬ partErr x = 0 := by simpa using hc
    refine AW.seq_k fun K4 h4 => ?_
    all_goals refine AW.reg0 ?_
    all_goals (refine S.g rfl rfl fun K' k' => ?_; simp only [zz, reduceIte, Nat.reduceEqDiff, Nat.reduceAdd]; refine k' _ _ ?_; clear k' K')
    all_goals refine S.nil ?_
    all_goals simp only [ze, reduceIte, Nat.reduceEqDiff, Nat.reduceLT, Nat.reduceLeDiff, Nat.reduceAdd, reduceCtorEq, Nat.reduceMul]
    all_goals apply_assumption
    refine AW.ret ?_
    all_goals simp only [zs, reduceIte, Nat.reduceEqDiff, Nat.reduceLT, Nat.reduceLeDiff, Nat.reduceAdd, reduceCtorEq, Nat.reduceMul]
    refine ⟨by simp [freshL, hc], ?_, .refl _ _⟩
    rw [addL, if_neg (fun h => hc h.1)]
    exact hs
  have hc : partErr x = 0 := by simpa using hc
  refine AW.skip ?_
  all_goals simp only [zs, reduceIte, Nat.reduceEqDiff, Nat.reduceLT, Nat.reduceLeDiff, Nat.reduceAdd, reduceCtorEq, Nat.reduceMul]
  all_goals apply_assumption
  refine AW.seq_k fun K5 h5 => ?_
  all_goals refine AW.drawF (T := { sd := fun d => d == 3 }) (fun _ _ h => by cases h) mixedO (.st 0 0 (.st 1 0 (.st 2 0 (.st 4 1 (.st 3 2 (.st 5 2 (.st 6 0 (.st 7 0 (.st 8 0 (.st 9 0 (.st 10 0 .nil))))))))))) rfl (by kernel_rfl) (by kernel_rfl) ?_
  all_goals iterate 3 (refine F.g rfl trivial rfl rfl fun K' k' => ?_; simp only [zz, reduceIte, Nat.reduceEqDiff, Nat.reduceLT, Nat.reduceLeDiff, Nat.reduceAdd, reduceCtorEq, Nat.reduceMul, of123_0, ptrV, ho, map2, List.getD_cons_zero]; refine k' _ _ ?_; clear k' K')
  all_goals (refine F.g rfl (by first | rfl | (simp only [stC, ze, reduceIte, Nat.reduceEqDiff, ptrV, ho, map2, List.getD_cons_zero]; done) | (simp only [stC, ze, reduceIte, Nat.reduceEqDiff, ptrV, ho, map2, List.getD_cons_zero]; rfl)) rfl rfl fun K' k' => ?_; simp only [zz, reduceIte, Nat.reduceEqDiff, Nat.reduceLT, Nat.reduceLeDiff, Nat.reduceAdd, reduceCtorEq, Nat.reduceMul, ok24, sz24, ag24, ptrV, ho, map2, List.getD_cons_zero]; refine k' _ _ ?_; clear k' K')
  all_goals (refine F.g rfl trivial rfl rfl fun K' k' => ?_; simp only [zz, reduceIte, Nat.reduceEqDiff, Nat.reduceLT, Nat.reduceLeDiff, Nat.reduceAdd, reduceCtorEq, Nat.reduceMul, ok64, sz64, ag64, ptrV, ho, map2, List.getD_cons_zero]; refine k' _ _ ?_; clear k' K')
  all_goals (refine F.g rfl trivial rfl rfl fun K' k' => ?_; simp only [zz, reduceIte, Nat.reduceEqDiff, Nat.reduceLT, Nat.reduceLeDiff, Nat.reduceAdd, reduceCtorEq, Nat.reduceMul, ptrV, ho, map2, List.getD_cons_zero]; refine ⟨hsr.1, hsr.2.to fun v σ2 hv => ?_⟩; obtain ⟨⟨i, b, rfl, hi, hat, hb⟩, rfl⟩ := hv <;> (refine k' _ _ ?_; clear k' K'))
  all_goals iterate 5 (refine F.g rfl trivial rfl rfl fun K' k' => ?_; simp only [zz, reduceIte, Nat.reduceEqDiff, Nat.reduceLT, Nat.reduceLeDiff, Nat.reduceAdd, reduceCtorEq, Nat.reduceMul, ptrV, ho, map2, List.getD_cons_zero]; refine k' _ _ ?_; clear k' K')
  all_goals refine F.nil ?_
  all_goals simp only [ze, reduceIte, Nat.reduceEqDiff, Nat.reduceLT, Nat.reduceLeDiff, Nat.reduceAdd, reduceCtorEq, Nat.reduceMul, ptrV, ho, map2, List.getD_cons_zero]
  all_goals apply_assumption
  have hbh : b = hasL rows x := by rw [Bool.eq_iff_iff, hb, hat.has ht]
  refine AW.seq_j (fun s σ' => s.t 6 = .c (.bool b) ∧ PSet g (addL rows x) σ' ∧ PFr g σ2 σ') ?_ ?_
  · refine AW.seq_k fun K6 h6 => ?_
    all_goals refine AW.reg0 ?_
    all_goals iterate 2 (refine S.g rfl rfl fun K' k' => ?_; simp only [zz, reduceIte, Nat.reduceEqDiff, Nat.reduceAdd]; refine k' _ _ ?_; clear k' K')
    all_goals refine S.nil ?_
    all_goals simp only [ze, reduceIte, Nat.reduceEqDiff, Nat.reduceLT, Nat.reduceLeDiff, Nat.reduceAdd, reduceCtorEq, Nat.reduceMul]
    all_goals apply_assumption
    refine AW.cond (b := !b) (by simp [ev]) (fun hc2 => ?_) (fun hc2 => ?_)
    · have hc2 : b = false := by simpa using hc2
      subst hc2
      have hadd : addL rows x = rows.take i ++ x :: rows.drop i := by rw [addL, if_pos ⟨hc, hbh.symm⟩, hat.ins hi]
      all_goals refine AW.drawF (T := { sd := fun d => d == 3, own := fun d => d == 33, raw := fun d => d == 97 }) (fun _ _ h => by cases h) mixedO (.st 0 0 (.st 1 0 (.st 2 0 (.st 3 0 (.st 5 0 (.st 6 1 (.fork 4 (.st 7 2 (.st 8 2 (.st 9 2 (.st 10 0 (.st 11 0 (.st 12 2 .nil)))))) 7 (.fork 4 (.st 8 2 (.st 9 2 (.st 10 0 (.st 11 0 (.st 12 2 .nil))))) 8 (.st 4 2 (.st 9 2 (.st 10 0 (.st 11 0 (.st 12 2 .nil))))))))))))) rfl (by kernel_rfl) (by kernel_rfl) ?_
      all_goals iterate 5 (refine F.g rfl trivial rfl rfl fun K' k' => ?_; simp only [zz, reduceIte, Nat.reduceEqDiff, Nat.reduceLT, Nat.reduceLeDiff, Nat.reduceAdd, reduceCtorEq, Nat.reduceMul, of123_0, ptrV, ho, map2, List.getD_cons_zero]; refine k' _ _ ?_; clear k' K')
      all_goals (refine F.g rfl (by first | rfl | (simp only [stC, ze, reduceIte, Nat.reduceEqDiff, ptrV, ho, map2, List.getD_cons_zero]; done) | (simp only [stC, ze, reduceIte, Nat.reduceEqDiff, ptrV, ho, map2, List.getD_cons_zero]; rfl)) rfl rfl fun K' k' => ?_; simp only [zz, reduceIte, Nat.reduceEqDiff, Nat.reduceLT, Nat.reduceLeDiff, Nat.reduceAdd, reduceCtorEq, Nat.reduceMul, ok24, sz24, ag24, ptrV, ho, map2, List.getD_cons_zero]; refine k' _ _ ?_; clear k' K')
      all_goals (try first | refine F.fork ?_ ?_ | refine F.fork3 ?_ ?_ ?_)
      all_goals first | (refine F.g rfl trivial rfl rfl fun K' k' => ?_; simp only [zz, reduceIte, Nat.reduceEqDiff, Nat.reduceLT, Nat.reduceLeDiff, Nat.reduceAdd, reduceCtorEq, Nat.reduceMul, ptrV, ho, map2, List.getD_cons_zero]; refine PCalls.eqto (clone_part x hx.attrs hx.len) ?_ <;> (refine k' _ _ ?_; clear k' K')) | (refine F.g rfl trivial rfl rfl fun K' k' => ?_; simp only [zz, reduceIte, Nat.reduceEqDiff, Nat.reduceLT, Nat.reduceLeDiff, Nat.reduceAdd, reduceCtorEq, Nat.reduceMul, ok64, sz64, ag64, ptrV, ho, map2, List.getD_cons_zero]; refine k' _ _ ?_; clear k' K')
      all_goals (try first | refine F.fork ?_ ?_ | refine F.fork3 ?_ ?_ ?_)
      all_goals first | (refine F.g rfl trivial rfl rfl fun K' k' => ?_; simp only [zz, reduceIte, Nat.reduceEqDiff, Nat.reduceLT, Nat.reduceLeDiff, Nat.reduceAdd, reduceCtorEq, Nat.reduceMul, ptrV, ho, map2, List.getD_cons_zero]; refine PCalls.eqto (clone_part x hx.attrs hx.len) ?_ <;> (refine k' _ _ ?_; clear k' K')) | (refine F.g rfl trivial rfl rfl fun K' k' => ?_; simp only [zb, reduceIte, Nat.reduceEqDiff, Nat.reduceLT, Nat.reduceLeDiff, Nat.reduceAdd, reduceCtorEq, Nat.reduceMul, sl64, el64, ok24, sz24, ag24, zt24, by24, ptrV, ho, map2, List.getD_cons_zero]; intro k3 hk3 <;> (refine k' _ _ ?_; clear k' K')) | (refine F.g rfl trivial rfl rfl fun K' k' => ?_; simp only [zz, reduceIte, Nat.reduceEqDiff, Nat.reduceLT, Nat.reduceLeDiff, Nat.reduceAdd, reduceCtorEq, Nat.reduceMul, ok64, sz64, ag64, ptrV, ho, map2, List.getD_cons_zero]; refine k' _ _ ?_; clear k' K')
      all_goals first | (refine F.g rfl trivial rfl rfl fun K' k' => ?_; simp only [zb, reduceIte, Nat.reduceEqDiff, Nat.reduceLT, Nat.reduceLeDiff, Nat.reduceAdd, reduceCtorEq, Nat.reduceMul, sl64, el64, ok24, sz24, ag24, zt24, by24, ptrV, ho, map2, List.getD_cons_zero]; intro k3 hk3 <;> (refine k' _ _ ?_; clear k' K')) | (refine F.g rfl trivial rfl rfl fun K' k' => ?_; simp only [zz, reduceIte, Nat.reduceEqDiff, Nat.reduceLT, Nat.reduceLeDiff, Nat.reduceAdd, reduceCtorEq, Nat.reduceMul, ok64, sz64, ag64, ptrV, ho, map2, List.getD_cons_zero]; refine k' _ _ ?_; clear k' K')
      all_goals (refine F.g rfl trivial rfl rfl fun K' k' => ?_; simp only [zz, reduceIte, Nat.reduceEqDiff, Nat.reduceLT, Nat.reduceLeDiff, Nat.reduceAdd, reduceCtorEq, Nat.reduceMul, ptrV, ho, map2, List.getD_cons_zero]; refine ⟨by (first | exact hlv | (simp only [List.all_cons, List.all_nil, hlv]; rfl)), (insert_set hd hk3 hi hn).to fun v σ3 hv => ?_⟩; obtain ⟨kn, rfl, hob, hgr, hfr⟩ := hv; have ho3 := (congrFun hob g).trans ho <;> (refine k' _ _ ?_; clear k' K'))
      all_goals iterate 2 (refine F.g rfl trivial rfl rfl fun K' k' => ?_; simp only [zz, reduceIte, Nat.reduceEqDiff, Nat.reduceLT, Nat.reduceLeDiff, Nat.reduceAdd, reduceCtorEq, Nat.reduceMul, of123_0, ptrV, ho, map2, List.getD_cons_zero]; refine k' _ _ ?_; clear k' K')
      all_goals (refine F.g rfl trivial rfl rfl fun K' k' => ?_; simp only [zz, reduceIte, Nat.reduceEqDiff, Nat.reduceLT, Nat.reduceLeDiff, Nat.reduceAdd, reduceCtorEq, Nat.reduceMul, ok64, sz64, ag64, ptrV, ho, map2, List.getD_cons_zero, ho3, List.length_cons, List.length_nil, true_and] <;> (refine k' _ _ ?_; clear k' K'))
      all_goals refine F.nil ?_
      all_goals simp only [ze, reduceIte, Nat.reduceEqDiff, Nat.reduceLT, Nat.reduceLeDiff, Nat.reduceAdd, reduceCtorEq, Nat.reduceMul, ptrV, ho, map2, List.getD_cons_zero]
      all_goals
        obtain ⟨p1, p2⟩ := PSet.put (g := g) (rows := rows) (rows' := addL rows x) (b := .junk) hob (by rw [hadd]; exact hgr) hfr
        exact ⟨p1, p2⟩
    · have hc2 : b = true := by simpa using hc2
      refine AW.skip ?_
      all_goals simp only [zs, reduceIte, Nat.reduceEqDiff, Nat.reduceLT, Nat.reduceLeDiff, Nat.reduceAdd, reduceCtorEq, Nat.reduceMul]
      refine ⟨?_, .refl _ _⟩
      rw [addL, if_neg (fun h => by rw [← hbh, hc2] at h; cases h.2)]
      exact hs
  rintro s σ' ⟨e6, hps, hfr⟩
  refine AW.seq_k fun K7 h7 => ?_
  all_goals refine AW.reg0 ?_
  all_goals iterate 3 (refine S.g rfl rfl fun K' k' => ?_; simp only [zz, reduceIte, Nat.reduceEqDiff, Nat.reduceAdd, e6]; refine k' _ _ ?_; clear k' K')
  all_goals refine S.nil ?_
  all_goals simp only [ze, reduceIte, Nat.reduceEqDiff, Nat.reduceLT, Nat.reduceLeDiff, Nat.reduceAdd, reduceCtorEq, Nat.reduceMul, e6]
  all_goals apply_assumption
  refine AW.ret ?_
  all_goals simp only [zs, reduceIte, Nat.reduceEqDiff, Nat.reduceLT, Nat.reduceLeDiff, Nat.reduceAdd, reduceCtorEq, Nat.reduceMul]
  refine ⟨?_, hps, hfr⟩
  rw [hbh]; simp [freshL, hc]
end Go.Abs.M
namespace Go.Abs.M
open Go Go.Abs Go.Proofs
set_option maxRecDepth 20000
set_option linter.unusedSimpArgs false
set_option linter.unusedVariables false
/-- The set of some rows. -/
def setL (rows : List (List Bd)) : List (List Bd) := rows.foldl addL []
theorem setL_snoc (l : List (List Bd)) (x : List Bd) : setL (l ++ [x]) = addL (setL l) x := by simp [setL]
theorem setL_take {l : List (List Bd)} {i : Nat} {x : List Bd} (h : l[i]? = some x) : setL (l.take (i + 1)) = addL (setL (l.take i)) x := by
  rw [List.take_add_one, h]
  exact setL_snoc _ _
theorem setL_ind (l : List (List Bd)) : SrtL (setL l) ∧ (setL l).length ≤ l.length ∧ ∀ y ∈ setL l, y ∈ l := by
  rw [← List.reverse_reverse l]
  induction l.reverse with
  | nil => exact ⟨.nil, Nat.le_refl _, fun y h => h⟩
  | cons x r ih =>
    obtain ⟨h1, h2, h3⟩ := ih
    rw [List.reverse_cons, setL_snoc]
    refine ⟨addL_srt h1, ?_, fun y hy => ?_⟩
    · have := addL_len (setL r.reverse) x
      rw [List.length_append, List.length_singleton]; omega
    · rcases addL_mem hy with rfl | h
      · simp
      · exact List.mem_append_left _ (h3 y h)
theorem PSet.frame {g : Nat} {rows : List (List Bd)} {σ σ' : Hp} (h : PSet g rows σ) (ho : σ'.obj g = σ.obj g) (hg : ∀ k, stN g σ = some k → σ'.gr k = σ.gr k) : PSet g rows σ' := by
  rcases h with ⟨e, h⟩ | ⟨k, h, hk⟩
  · exact .inl ⟨e, ho.trans h⟩
  · exact .inr ⟨k, ho.trans h, (hg k (by simp [stN, h])).trans hk⟩
/-- What a new set leaves. -/
structure NewS (g : Nat) (rows : List (List Bd)) (σ σ' : Hp) : Prop where
  new : σ.obj g = none
  set : PSet g rows σ'
  obj : ∀ x, x ≠ g → σ'.obj x = σ.obj x
  gr : ∀ k x, σ.gr k = some x → σ'.gr k = some x ∧ stN g σ' ≠ some k
theorem newSet_spec (rows : List (List Bd)) (σ : Hp) (hr : rows.length * 24 ≤ 140737488355328) (hok : ∀ x ∈ rows, okI x) :
    ACalls Try.prog 42 [.sl (rows.map encP)] σ (fun v σ' => ∃ g, v = ptrV g ∧ NewS g (setL rows) σ σ') := by
  refine ACalls.intro Try.call42 Try.func42 rfl Try.ntmps42 Try.results42 (by simp) ?_
  refine AW.seq_k fun K1 h1 => ?_
  all_goals refine AW.reg0 ?_
  all_goals (refine S.g rfl rfl fun K' k' => ?_; simp only [zz, reduceIte, Nat.reduceEqDiff, Nat.reduceAdd]; refine k' _ _ ?_; clear k' K')
  all_goals refine S.nil ?_
  all_goals simp only [ze, reduceIte, Nat.reduceEqDiff, Nat.reduceLT, Nat.reduceLeDiff, Nat.reduceAdd, reduceCtorEq, Nat.reduceMul]
  all_goals apply_assumption
  refine AW.seq_k fun K2 h2 => ?_
  all_goals refine AW.region (T := { hp := fun d => d == 7 }) (fun _ _ h => by cases h) rfl ?_
  all_goals (refine S.g rfl rfl fun K' k' => ?_; simp only [zz, reduceIte, Nat.reduceEqDiff, Nat.reduceLT, Nat.reduceLeDiff, Nat.reduceAdd, reduceCtorEq, Nat.reduceMul, zt123, pl123]; refine k' _ _ ?_; clear k' K')
  all_goals (refine S.g rfl rfl fun K' k' => ?_; simp only [zz, reduceIte, Nat.reduceEqDiff, Nat.reduceLT, Nat.reduceLeDiff, Nat.reduceAdd, reduceCtorEq, Nat.reduceMul, ok123, sz123, ag123]; intro g hg <;> (refine k' _ _ ?_; clear k' K'))
  all_goals (refine S.g rfl rfl fun K' k' => ?_; simp only [zz, reduceIte, Nat.reduceEqDiff, Nat.reduceAdd]; refine k' _ _ ?_; clear k' K')
  all_goals refine S.nil ?_
  all_goals simp only [ze, reduceIte, Nat.reduceEqDiff, Nat.reduceLT, Nat.reduceLeDiff, Nat.reduceAdd, reduceCtorEq, Nat.reduceMul]
  all_goals apply_assumption
  refine AW.seq_j (fun s σ' => s.t 3 = .c (.pointer (some ⟨g, 0, none⟩)) ∧ NewS g (setL rows) σ σ') ?_ ?_
  · refine AW.seq_k fun K3 h3 => ?_
    all_goals refine AW.reg0 ?_
    all_goals iterate 3 (refine S.g rfl rfl fun K' k' => ?_; simp only [zz, reduceIte, Nat.reduceEqDiff, Nat.reduceLT, Nat.reduceLeDiff, Nat.reduceAdd, reduceCtorEq, Nat.reduceMul, sl64, el64, ok24, sz24, ag24, List.length_map]; refine k' _ _ ?_; clear k' K')
    all_goals refine S.nil ?_
    all_goals simp only [ze, reduceIte, Nat.reduceEqDiff, Nat.reduceLT, Nat.reduceLeDiff, Nat.reduceAdd, reduceCtorEq, Nat.reduceMul, List.length_map]
    all_goals apply_assumption
    refine AW.block ?_   -- 0
    refine AW.loop (fun m s σ' => ∃ i : Nat, m = rows.length - i ∧ i ≤ rows.length ∧ s.t 3 = .c (.pointer (some ⟨g, 0, none⟩)) ∧ s.t 8 = .sl (rows.map encP) ∧ s.t 9 = .c (.int .i64 (rows.length : Nat)) ∧ s.t 10 = .c (.int .i64 (i : Nat)) ∧ NewS g (setL (rows.take i)) σ σ') rows.length ?_ ?_
    · refine ⟨0, by omega, Nat.zero_le _, ?_⟩
      all_goals simp only [zs, reduceIte, Nat.reduceEqDiff, Nat.reduceLT, Nat.reduceLeDiff, Nat.reduceAdd, reduceCtorEq, Nat.reduceMul]
      exact ⟨rfl, ⟨hg, .inl ⟨rfl, by simp⟩, fun x hx => by simp [hx], fun k x hk => ⟨by simpa using hk, by simp [stN]⟩⟩⟩
    rintro m s σ1 ⟨i, hm, hi, e3, e8, e9, e10, hnew⟩
    refine AW.seq_k fun K4 h4 => ?_
    all_goals refine AW.reg0 ?_
    all_goals (refine S.g rfl rfl fun K' k' => ?_; simp only [zz, reduceIte, Nat.reduceEqDiff, Nat.reduceAdd, e9, e10]; refine k' _ _ ?_; clear k' K')
    all_goals refine S.nil ?_
    all_goals simp only [ze, reduceIte, Nat.reduceEqDiff, Nat.reduceLT, Nat.reduceLeDiff, Nat.reduceAdd, reduceCtorEq, Nat.reduceMul, e9, e10]
    all_goals apply_assumption
    refine AW.seq_k fun K5 h5 => ?_
    refine AW.cond (b := decide (i < rows.length)) (by simp [ev]) (fun hc => ?_) (fun hc => ?_)
    · have hc := of_decide_eq_true hc
      refine AW.skip ?_
      all_goals simp only [zs, reduceIte, Nat.reduceEqDiff, Nat.reduceLT, Nat.reduceLeDiff, Nat.reduceAdd, reduceCtorEq, Nat.reduceMul]
      all_goals apply_assumption
      obtain ⟨x, hx⟩ : ∃ x, rows[i]? = some x := ⟨_, List.getElem?_eq_getElem hc⟩
      have hxm := List.mem_of_getElem? hx
      have hxe := encP_gd hx
      have hps := hnew.set
      obtain ⟨hsr, hln, hmm⟩ := setL_ind (rows.take i)
      rw [List.length_take] at hln
      have hn : ((setL (rows.take i)).length + 1) * 24 ≤ 140737488355328 := by omega
      have hll : ∀ y ∈ setL (rows.take i), y.length < 4611686018427387904 := fun y hy => by
        have := (hok y (List.mem_of_mem_take (hmm y hy))).len
        omega
      have hw : IntKind.i64.wrap ((i : Int) + 1) = ((i + 1 : Nat) : Int) := by rw [wrap_small _ (by omega) (by omega)]; rfl
      refine AW.seq_k fun K6 h6 => ?_
      refine AW.block ?_   -- 1
      refine AW.seq_k fun K7 h7 => ?_
      all_goals refine AW.reg0 ?_
      all_goals iterate 4 (refine S.g rfl rfl fun K' k' => ?_; simp only [zz, reduceIte, Nat.reduceEqDiff, Nat.reduceLT, Nat.reduceLeDiff, Nat.reduceAdd, reduceCtorEq, Nat.reduceMul, sl64, el64, ok24, sz24, ag24, zt24, e8, e10, List.length_map, hc, hxe]; refine k' _ _ ?_; clear k' K')
      all_goals refine S.nil ?_
      all_goals simp only [ze, reduceIte, Nat.reduceEqDiff, Nat.reduceLT, Nat.reduceLeDiff, Nat.reduceAdd, reduceCtorEq, Nat.reduceMul, e8, e10, List.length_map, hc, hxe]
      all_goals apply_assumption
      all_goals refine AW.reg0 ?_
      all_goals iterate 2 (refine S.g rfl rfl fun K' k' => ?_; simp only [zz, reduceIte, Nat.reduceEqDiff, Nat.reduceLT, Nat.reduceLeDiff, Nat.reduceAdd, reduceCtorEq, Nat.reduceMul, ok24, sz24, ag24, e3]; refine k' _ _ ?_; clear k' K')
      all_goals (refine S.g rfl rfl fun K' k' => ?_; simp only [zz, reduceIte, Nat.reduceEqDiff, Nat.reduceLT, Nat.reduceLeDiff, Nat.reduceAdd, reduceCtorEq, Nat.reduceMul, e3]; refine (add_spec g (setL (rows.take i)) x _ hps hsr hn hll (hok x hxm)).to fun v σ3 hv => ?_; obtain ⟨rfl, hps3, hfr3⟩ := hv <;> (refine k' _ _ ?_; clear k' K'))
      all_goals refine S.nil ?_
      all_goals simp only [ze, reduceIte, Nat.reduceEqDiff, Nat.reduceLT, Nat.reduceLeDiff, Nat.reduceAdd, reduceCtorEq, Nat.reduceMul, e3]
      all_goals apply_assumption
      all_goals refine AW.reg0 ?_
      all_goals iterate 2 (refine S.g rfl rfl fun K' k' => ?_; simp only [zz, reduceIte, Nat.reduceEqDiff, Nat.reduceAdd, e10, hw]; refine k' _ _ ?_; clear k' K')
      all_goals refine S.nil ?_
      all_goals simp only [ze, reduceIte, Nat.reduceEqDiff, Nat.reduceLT, Nat.reduceLeDiff, Nat.reduceAdd, reduceCtorEq, Nat.reduceMul, e10, hw]
      refine ⟨m - 1, by omega, i + 1, by omega, by omega, ?_⟩
      all_goals simp only [zs, reduceIte, Nat.reduceEqDiff, Nat.reduceLT, Nat.reduceLeDiff, Nat.reduceAdd, reduceCtorEq, Nat.reduceMul, e3, e8, e9, e10]
      refine ⟨hnew.new, ?_, fun z hz => (hfr3.obj z hz).trans (hnew.obj z hz), fun k z hk => ?_⟩
      · rw [setL_take hx]; exact hps3
      · obtain ⟨h1, h2⟩ := hnew.gr k z hk
        exact hfr3.gr k z h1 h2
    · have hc := of_decide_eq_false hc
      refine AW.exit ?_
      all_goals simp only [zs, reduceIte, Nat.reduceEqDiff, Nat.reduceLT, Nat.reduceLeDiff, Nat.reduceAdd, reduceCtorEq, Nat.reduceMul, e3]
      have : i = rows.length := by omega
      subst this
      rw [List.take_length] at hnew
      exact hnew
  rintro s σ1 ⟨e3, hnew⟩
  refine AW.seq_k fun K8 h8 => ?_
  all_goals refine AW.reg0 ?_
  all_goals iterate 2 (refine S.g rfl rfl fun K' k' => ?_; simp only [zz, reduceIte, Nat.reduceEqDiff, Nat.reduceAdd, e3]; refine k' _ _ ?_; clear k' K')
  all_goals refine S.nil ?_
  all_goals simp only [ze, reduceIte, Nat.reduceEqDiff, Nat.reduceLT, Nat.reduceLeDiff, Nat.reduceAdd, reduceCtorEq, Nat.reduceMul, e3]
  all_goals apply_assumption
  refine AW.ret ?_
  all_goals simp only [zs, reduceIte, Nat.reduceEqDiff, Nat.reduceLT, Nat.reduceLeDiff, Nat.reduceAdd, reduceCtorEq, Nat.reduceMul]
  exact ⟨g, rfl, hnew⟩
end Go.Abs.M
namespace Go.Abs.M
open Go Go.Abs Go.Proofs
set_option maxRecDepth 20000
set_option linter.unusedSimpArgs false
set_option linter.unusedVariables false
/-- A partial match that may be cloned. -/
def cloneOk (l : List Bd) : Prop := (∀ b ∈ l, b.ev.attrs.length * 48 ≤ 140737488355328) ∧ l.length * 80 ≤ 140737488355328
theorem encP_at {l : List (List Bd)} {i : Nat} {x : List Bd} (h : l[i]? = some x) : (l.map encP).getD i [] = encP x := by simp [List.getD, h]
theorem imm_attr (a : Attr) : ∀ v : V, v ∈ encAttr a → Imm v := fun v hv => by simp only [encAttr, List.mem_cons, List.not_mem_nil, or_false] at hv; rcases hv with rfl | rfl | rfl | rfl <;> exact .c _
theorem imm_bd (b : Bd) : ∀ v : V, v ∈ encBd b → Imm v := fun v hv => by
  simp only [encBd, List.mem_cons, List.not_mem_nil, or_false] at hv
  rcases hv with rfl | rfl | rfl | rfl | rfl | rfl
  · exact .c _
  · exact .c _
  · exact .c _
  · exact .c _
  · exact .c _
  · exact .sl fun e he v hv => by obtain ⟨x, _, rfl⟩ := List.mem_map.1 he; exact imm_attr x v hv
theorem imm_part (l : List Bd) : Imm (.sl (l.map encBd)) := .sl fun e he v hv => by obtain ⟨x, _, rfl⟩ := List.mem_map.1 he; exact imm_bd x v hv
theorem imm_parts (l : List (List Bd)) : Imm (.sl (l.map encP)) := .sl fun e he v hv => by
  obtain ⟨x, _, rfl⟩ := List.mem_map.1 he
  simp only [encP, List.mem_cons, List.not_mem_nil, or_false] at hv
  rw [hv]; exact imm_part x
/-- The variable that 'All' leaves to its iterator. -/
def capV (rows : List (List Bd)) : V := .ip [[.sl (rows.map encP)]] 0 0
theorem imm_cap (rows : List (List Bd)) : Imm (capV rows) := .ip fun e he v hv => by
  simp only [List.mem_cons, List.not_mem_nil, or_false] at he
  subst he
  simp only [List.mem_cons, List.not_mem_nil, or_false] at hv
  rw [hv]; exact imm_parts rows
def partA (l : List Bd) : V := .agg [.sl (l.map encBd)]
theorem imm_partA (l : List Bd) : Imm (partA l) := .agg fun v hv => by simp only [List.mem_cons, List.not_mem_nil, or_false] at hv; rw [hv]; exact imm_part l
theorem iter_all (rows : List (List Bd)) (hrows : ∀ l ∈ rows, cloneOk l) (hlen : rows.length < 4611686018427387904) : Iter Try.prog 95 [capV rows] (rows.map partA) := by
  refine ⟨Try.call95, fun l W0 I0 cv J Jx hva hIlt hJ hJx hround h0 => ?_⟩
  refine callsIn_of_wp (F := Fence.wide) (n := 0) Try.func95 rfl trivial (wpIn_wide.2 ?_)
  have hcv : cv.length = 1 := hva.1.symm
  have hb := SR.itBegin (n := 17) (k := 15) (W := W0) (I := I0) (args := .fn (.yield l) [] [] :: [capV rows]) (xs := .func (.yield l) #[] #[] :: cv)
    (VAs.cons (.fn (xs := []) (ys := []) rfl (fun i v x h => by cases h) rfl (fun i v x h => by cases h)) hva) (by simp) (by simp [hcv]) (hIlt 0 I0 W0 h0)
  have eargs : (#[Value.func (.yield l) #[] #[]] ++ (⟨cv⟩ : Array Value)) ++ Array.replicate (Try.f95.ntmps - (#[Value.func (.yield l) #[] #[]] ++ (⟨cv⟩ : Array Value)).size) undef = (⟨Value.func (.yield l) #[] #[] :: cv⟩ : Array Value) ++ Array.replicate 15 undef := by
    have : Try.f95.ntmps = 17 := Try.ntmps95
    rw [this]; simp [hcv]
  rw [eargs]
  clear eargs
  have hJ0 := h0
  have hcell : ∀ i, (partA i : V) = .agg [.sl (i.map encBd)] := fun i => rfl
  let R : Ending → World → Prop := fun e W' => (∃ v, e = .returned v) ∧ ((∃ I, J (rows.map partA).length I W') ∨ Jx W')
  have fin : ∀ {B : Base} {cx : Cx} {s : St} {σ : Hp} {a : Act} {w : World}, B.nd = true → SR B 17 cx s σ a w → ((∃ I, J (rows.map partA).length I w) ∨ Jx w) → a.defers = [] ∧ ∃ v, (results Try.f95 a.tmps).run Try.prog w = .ok v w ∧ R (.returned v) w := fun hnd h hj => by
    obtain ⟨v, hv⟩ := h.nothing Try.results95
    exact ⟨h.nd hnd, v, hv, ⟨v, rfl⟩, hj⟩
  refine wp_seq (wp_mono ((wpIn_wide (n := 0)).1 (it_region hb rfl (K := fun s σ => σ = Hp.empty ∧ s.t 0 = .fn (.yield l) [] [] ∧ s.t 5 = .sl (rows.map encP) ∧ s.t 6 = .c (.int .i64 (rows.length : Nat)) ∧ s.t 7 = .c (.int .i64 (0 : Nat))) ?_)) ?_)
  · skip
    all_goals iterate 3 (refine S.g rfl rfl fun K' k' => ?_; simp only [zz, reduceIte, Nat.reduceEqDiff, Nat.reduceLT, Nat.reduceLeDiff, Nat.reduceAdd, reduceCtorEq, Nat.reduceMul, ok64, sz64, ag64, sl64, el64, ok24, sz24, ag24, capV, List.getD_cons_zero]; refine k' _ _ ?_; clear k' K')
    all_goals refine S.nil ?_
    all_goals simp only [ze, reduceIte, Nat.reduceEqDiff, Nat.reduceLT, Nat.reduceLeDiff, Nat.reduceAdd, reduceCtorEq, Nat.reduceMul, capV, List.getD_cons_zero]
    rfl
  rintro e a1 w1 hq
  cases e with
  | normal => ?_
  | _ => exact hq.elim
  obtain ⟨cx1, s1, σ1, h1, rfl, e0, e5, e6, e7⟩ := hq
  obtain ⟨hN, hM⟩ := h1.newer rfl
  have hJ1 := hJ 0 I0 W0 cx1.I w1 h0 hN hM
  have h2 := h1.again (W' := w1) (I' := cx1.I) rfl (fun g hg => ⟨hg, rfl⟩) (fun g hg => h1.heap.ilt g hg)
  clear hb h0 hJ0 hM hN
  refine wp_block ?_
  refine wp_loop_rel (fun m a w => ∃ i cx s, m = rows.length - i ∧ i ≤ rows.length ∧ J i cx.I w ∧ SR (Base.it cx w) 17 cx s Hp.empty a w ∧ s.t 0 = .fn (.yield l) [] [] ∧ s.t 5 = .sl (rows.map encP) ∧ s.t 6 = .c (.int .i64 (rows.length : Nat)) ∧ s.t 7 = .c (.int .i64 (i : Nat)))
    ⟨rows.length, 0, cx1, _, rfl, Nat.zero_le _, hJ1, h2, by simp [keepV, e0], by simp [keepV, e5], by simp [keepV, e6], by simp [keepV, e7]⟩ ?_
  clear h2 hJ1 h1 e0 e5 e6 e7 hva hcv
  rintro m a w ⟨i, cx, s, hm, hi, hji, h, e0, e5, e6, e7⟩
  refine wp_seq (wp_mono ((wpIn_wide (n := 0)).1 (it_region h rfl (K := fun s' σ' => σ' = Hp.empty ∧ s'.t 0 = .fn (.yield l) [] [] ∧ s'.t 5 = .sl (rows.map encP) ∧ s'.t 6 = .c (.int .i64 (rows.length : Nat)) ∧ s'.t 7 = .c (.int .i64 (i : Nat)) ∧ s'.t 8 = .c (.bool (decide (i < rows.length)))) ?_)) ?_)
  · skip
    all_goals (refine S.g rfl rfl fun K' k' => ?_; simp only [zz, reduceIte, Nat.reduceEqDiff, Nat.reduceAdd, e0, e5, e6, e7]; refine k' _ _ ?_; clear k' K')
    all_goals refine S.nil ?_
    all_goals simp only [ze, reduceIte, Nat.reduceEqDiff, Nat.reduceLT, Nat.reduceLeDiff, Nat.reduceAdd, reduceCtorEq, Nat.reduceMul, e0, e5, e6, e7]
    done
  rintro e a2 w2 hq
  cases e with
  | normal => ?_
  | _ => exact hq.elim
  obtain ⟨cx2, s2, σ2, h2, rfl, f0, f5, f6, f7, f8⟩ := hq
  obtain ⟨hN, hM⟩ := h2.newer rfl
  have hj2 := hJ i cx.I w cx2.I w2 hji hN hM
  have hc8 := h2.tr (.tmp 8)
  simp only [ev, f8] at hc8
  refine wp_seq (wp_cond_split hc8.c_eq (fun hc => wp_skip ?_) (fun hc => wp_exit ?_))
  · have hin := of_decide_eq_true hc
    obtain ⟨x, hx⟩ : ∃ x, rows[i]? = some x := ⟨_, List.getElem?_eq_getElem hin⟩
    have hxe := encP_at hx
    have hxs : (rows.map partA)[i]? = some (partA x) := by simp [hx]
    have hwi : IntKind.i64.wrap ((i : Int) + 1) = ((i + 1 : Nat) : Int) := by rw [wrap_small _ (by omega) (by omega)]; rfl
    refine wp_seq (wp_block ?_)
    refine wp_seq (wp_mono ((wpIn_wide (n := 0)).1 (it_region h2 rfl (K := fun s' σ' => σ' = Hp.empty ∧ s'.t 0 = .fn (.yield l) [] [] ∧ s'.t 5 = .sl (rows.map encP) ∧ s'.t 6 = .c (.int .i64 (rows.length : Nat)) ∧ s'.t 7 = .c (.int .i64 (i : Nat)) ∧ s'.t 4 = .lp 4 0 ∧ s'.l 4 = some [.sl (x.map encBd)]) ?_)) ?_)
    · skip
      all_goals iterate 4 (refine S.g rfl rfl fun K' k' => ?_; simp only [zz, reduceIte, Nat.reduceEqDiff, Nat.reduceLT, Nat.reduceLeDiff, Nat.reduceAdd, reduceCtorEq, Nat.reduceMul, sl64, el64, ok24, sz24, ag24, zt24, f0, f5, f6, f7, hin, hxe, encP, List.length_singleton]; refine k' _ _ ?_; clear k' K')
      all_goals refine S.nil ?_
      all_goals simp only [ze, reduceIte, Nat.reduceEqDiff, Nat.reduceLT, Nat.reduceLeDiff, Nat.reduceAdd, reduceCtorEq, Nat.reduceMul, f0, f5, f6, f7, hin, hxe, encP, List.length_singleton]
      done
    rintro e a3 w3 hq
    cases e with
    | normal => ?_
    | _ => exact hq.elim
    obtain ⟨cx3, s3, σ3, h3, rfl, g0, g5, g6, g7, g4, l4⟩ := hq
    refine wp_seq ((wpIn_wide (n := 0)).1 (wpIn_region ?_))
    refine it_part 3 0 2 rfl (by decide) h3 rfl (K := fun s' σ' => σ' = Hp.empty ∧ s'.t 11 = .fn (.yield l) [] [] ∧ s'.t 13 = partA x ∧ s'.t 0 = .fn (.yield l) [] [] ∧ s'.t 5 = .sl (rows.map encP) ∧ s'.t 6 = .c (.int .i64 (rows.length : Nat)) ∧ s'.t 7 = .c (.int .i64 (i : Nat))) ?_ ?_
    · skip
      all_goals iterate 2 (refine S.g rfl rfl fun K' k' => ?_; simp only [zz, reduceIte, Nat.reduceEqDiff, Nat.reduceLT, Nat.reduceLeDiff, Nat.reduceAdd, reduceCtorEq, Nat.reduceMul, ok24, sz24, ag24, g0, g5, g6, g7, g4, l4]; refine k' _ _ ?_; clear k' K')
      all_goals (refine S.g rfl rfl fun K' k' => ?_; simp only [zz, reduceIte, Nat.reduceEqDiff, Nat.reduceLT, Nat.reduceLeDiff, Nat.reduceAdd, reduceCtorEq, Nat.reduceMul, g0, g5, g6, g7, g4, l4]; refine PCalls.eqto (clone_part x (hrows x (List.mem_of_getElem? hx)).1 (hrows x (List.mem_of_getElem? hx)).2) ?_ <;> (refine k' _ _ ?_; clear k' K'))
      all_goals refine S.nil ?_
      all_goals simp only [ze, reduceIte, Nat.reduceEqDiff, Nat.reduceLT, Nat.reduceLeDiff, Nat.reduceAdd, reduceCtorEq, Nat.reduceMul, g0, g5, g6, g7, g4, l4]
      exact rfl
    rintro a4 w4 ⟨cx4, s4, σ4, h4, rfl, k11, k13, k0, k5, k6, k7⟩
    obtain ⟨hN4, hM4⟩ := h4.newer rfl
    have hj4 := hJ i cx.I w cx4.I w4 hji hN4 hM4
    have h11 := h4.tr (.tmp 11)
    have h13 := h4.tr (.tmp 13)
    simp only [ev, k11] at h11
    simp only [ev, k13] at h13
    have hfv : a4.eval (.tmp 11) = .func (.yield l) #[] #[] := by
      generalize a4.eval (.tmp 11) = y at h11
      cases h11 with
      | v h11 =>
        cases h11 with
        | @fn _ _ _ xs1 ys1 hn _ hm _ =>
          obtain rfl : xs1 = [] := List.eq_nil_of_length_eq_zero hn.symm
          obtain rfl : ys1 = [] := List.eq_nil_of_length_eq_zero hm.symm
          rfl
    have hxv : VR w4 cx4 (partA x) (a4.eval (.tmp 13)) := by
      generalize a4.eval (.tmp 13) = y at h13
      cases h13 with
      | v h13 => exact h13
    refine it_yield (i := 3) (q := 1) (f := .tmp 11) (x := .tmp 13) rfl rfl rfl hfv rfl (hround i cx4.I w4 (partA x) _ hj4 hxs (hxv.toIm (imm_partA x))) ?_
    rintro e w5 (⟨rfl, I5, hj5, hsame⟩ | ⟨rfl, hx5⟩)
    · refine ⟨true, rfl, ?_⟩
      have h5 := (h4.again (W' := w5) (I' := I5) rfl hsame (fun g hg => hIlt (i + 1) I5 w5 hj5 g hg)).put (d := 14) (v := .c (.bool true)) (by omega) (.v (.c _))
      have q0 : ((⟨fun t => keepV (s4.t t), fun _ => none⟩ : St).put 14 (.c (.bool true))).t 0 = .fn (.yield l) [] [] := by simp [St.put, keepV, k0]
      have q5 : ((⟨fun t => keepV (s4.t t), fun _ => none⟩ : St).put 14 (.c (.bool true))).t 5 = .sl (rows.map encP) := by simp [St.put, keepV, k5]
      have q6 : ((⟨fun t => keepV (s4.t t), fun _ => none⟩ : St).put 14 (.c (.bool true))).t 6 = .c (.int .i64 (rows.length : Nat)) := by simp [St.put, keepV, k6]
      have q7 : ((⟨fun t => keepV (s4.t t), fun _ => none⟩ : St).put 14 (.c (.bool true))).t 7 = .c (.int .i64 (i : Nat)) := by simp [St.put, keepV, k7]
      have q14 : ((⟨fun t => keepV (s4.t t), fun _ => none⟩ : St).put 14 (.c (.bool true))).t 14 = .c (.bool true) := by simp [St.put]
      generalize (⟨fun t => keepV (s4.t t), fun _ => none⟩ : St).put 14 (.c (.bool true)) = s5 at h5 q0 q5 q6 q7 q14
      refine it_part 1 4 0 rfl (by decide) h5 rfl (K := fun s' σ' => σ' = Hp.empty ∧ s'.t 0 = .fn (.yield l) [] [] ∧ s'.t 5 = .sl (rows.map encP) ∧ s'.t 6 = .c (.int .i64 (rows.length : Nat)) ∧ s'.t 7 = .c (.int .i64 (i : Nat)) ∧ s'.t 15 = .c (.bool false)) ?_ ?_
      · skip
        all_goals (refine S.g rfl rfl fun K' k' => ?_; simp only [zz, reduceIte, Nat.reduceEqDiff, Nat.reduceAdd, q0, q5, q6, q7, q14]; refine k' _ _ ?_; clear k' K')
        all_goals refine S.nil ?_
        all_goals simp only [ze, reduceIte, Nat.reduceEqDiff, Nat.reduceLT, Nat.reduceLeDiff, Nat.reduceAdd, reduceCtorEq, Nat.reduceMul, q0, q5, q6, q7, q14]
        done
      rintro a6 w6 ⟨cx6, s6, σ6, h6, rfl, r0, r5, r6, r7, r15⟩
      obtain ⟨hN6, hM6⟩ := h6.newer rfl
      have hj6 := hJ (i + 1) I5 w5 cx6.I w6 hj5 hN6 hM6
      have hc15 := h6.tr (.tmp 15)
      simp only [ev, r15] at hc15
      refine wp_cond_split hc15.c_eq (fun hc => by cases hc) (fun _ => wp_skip ?_)
      have h7 := h6.again (W' := w6) (I' := cx6.I) rfl (fun g hg => ⟨hg, rfl⟩) (fun g hg => h6.heap.ilt g hg)
      refine wp_mono ((wpIn_wide (n := 0)).1 (it_region h7 rfl (K := fun s' σ' => σ' = Hp.empty ∧ s'.t 0 = .fn (.yield l) [] [] ∧ s'.t 5 = .sl (rows.map encP) ∧ s'.t 6 = .c (.int .i64 (rows.length : Nat)) ∧ s'.t 7 = .c (.int .i64 (i + 1 : Nat))) ?_)) ?_
      · skip
        all_goals iterate 2 (refine S.g rfl rfl fun K' k' => ?_; simp only [zz, reduceIte, Nat.reduceEqDiff, Nat.reduceAdd, r0, r5, r6, r7, hwi, keepV]; refine k' _ _ ?_; clear k' K')
        all_goals refine S.nil ?_
        all_goals simp only [ze, reduceIte, Nat.reduceEqDiff, Nat.reduceLT, Nat.reduceLeDiff, Nat.reduceAdd, reduceCtorEq, Nat.reduceMul, r0, r5, r6, r7, hwi, keepV]
        done
      rintro e a7 w7 hq
      cases e with
      | normal => ?_
      | _ => exact hq.elim
      obtain ⟨cx7, s7, σ7, h8, rfl, u0, u5, u6, u7⟩ := hq
      obtain ⟨hN7, hM7⟩ := h8.newer rfl
      have hj7 := hJ (i + 1) cx6.I w6 cx7.I w7 hj6 hN7 hM7
      have h9 := h8.again (W' := w7) (I' := cx7.I) rfl (fun g hg => ⟨hg, rfl⟩) (fun g hg => h8.heap.ilt g hg)
      exact ⟨rows.length - (i + 1), by omega, i + 1, cx7, _, rfl, by omega, hj7, h9, by simp [keepV, u0], by simp [keepV, u5], by simp [keepV, u6], by simp [keepV, u7]⟩
    · refine ⟨false, rfl, ?_⟩
      have h5 := (h4.stop w5 rfl).put (d := 14) (v := .c (.bool false)) (by omega) (.v (.c _))
      have q14 : ((⟨fun t => keepC (s4.t t), fun _ => none⟩ : St).put 14 (.c (.bool false))).t 14 = .c (.bool false) := by simp [St.put]
      generalize (⟨fun t => keepC (s4.t t), fun _ => none⟩ : St).put 14 (.c (.bool false)) = s5 at h5 q14
      refine it_part 1 4 0 rfl (by decide) h5 rfl (K := fun s' σ' => σ' = Hp.empty ∧ s'.t 15 = .c (.bool true)) ?_ ?_
      · skip
        all_goals (refine S.g rfl rfl fun K' k' => ?_; simp only [zz, reduceIte, Nat.reduceEqDiff, Nat.reduceAdd, q14]; refine k' _ _ ?_; clear k' K')
        all_goals refine S.nil ?_
        all_goals simp only [ze, reduceIte, Nat.reduceEqDiff, Nat.reduceLT, Nat.reduceLeDiff, Nat.reduceAdd, reduceCtorEq, Nat.reduceMul, q14]
        done
      rintro a6 w6 ⟨cx6, s6, σ6, h6, rfl, r15⟩
      obtain ⟨hN6, hM6⟩ := h6.newer rfl
      have hx6 := hJx (fun _ => False) w5 (fun g => False ∨ False) w6 hx5 hN6 ⟨fun _ h => h.elim, fun _ h => (by rcases h with h | h <;> exact h.elim)⟩
      have hc15 := h6.tr (.tmp 15)
      simp only [ev, r15] at hc15
      refine wp_cond_split hc15.c_eq (fun _ => wp_ret ?_) (fun hc => by cases hc)
      exact fin rfl h6 (.inr hx6)
  · have hin := of_decide_eq_false hc
    have hl : i = (rows.map partA).length := by simp; omega
    rw [hl] at hj2
    exact fin rfl h2 (.inl ⟨_, hj2⟩)
end Go.Abs.M
namespace Go.Abs.M
open Go Go.Abs Go.Proofs
set_option maxRecDepth 20000
set_option linter.unusedSimpArgs false
set_option linter.unusedVariables false
theorem hp_ext {σ σ' : Hp} (h1 : ∀ g, σ.obj g = σ'.obj g) (h2 : ∀ k, σ.gr k = σ'.gr k) : σ = σ' := by
  cases σ; cases σ'
  simp only [Hp.mk.injEq]
  exact ⟨funext h1, funext h2⟩
/-- The list that 'All' makes, so far. -/
def AllJ (σ : Hp) (p : Nat) (l : List (List Bd)) (σ1 : Hp) : Prop := (l = [] ∧ σ1 = σ.setObj p (some [.c (.slice none 0 0)])) ∨ ∃ k, σ.gr k = none ∧ σ1 = (σ.setObj p (some [.gl k])).setGr k (some ((24, 1), l.map encP))
theorem AllJ.next {σ σ1 : Hp} {p : Nat} {l : List (List Bd)} (h : AllJ σ p l σ1) : ∃ lv ok, σ1.obj p = some [lv] ∧ isMap [lv] = false ∧ okV lv = true ∧ dstE σ1 24 1 lv = some (ok, l.map encP) ∧ ∀ k2 x, (σ1.delO ok).gr k2 = none → AllJ σ p (l ++ [x]) (((σ1.delO ok).setGr k2 (some ((24, 1), l.map encP ++ [[.sl (x.map encBd)]]))).setObj p (some [.gl k2])) := by
  rcases h with ⟨rfl, rfl⟩ | ⟨k, hk, rfl⟩
  · refine ⟨.c (.slice none 0 0), none, by simp, rfl, rfl, rfl, fun k2 x h2 => .inr ⟨k2, by simpa [Hp.delO] using h2, ?_⟩⟩
    refine hp_ext (fun g => ?_) (fun j => ?_)
    · by_cases e : g = p <;> simp [Hp.delO, Hp.setObj, Hp.setGr, e]
    · by_cases e : j = k2 <;> simp [Hp.delO, Hp.setObj, Hp.setGr, e, encP]
  · refine ⟨.gl k, some k, by simp, rfl, rfl, by simp [dstE, Hp.setGr], fun k2 x h2 => .inr ⟨k2, ?_, ?_⟩⟩
    · by_cases e : k2 = k
      · rw [e]; exact hk
      · simpa [Hp.delO, Hp.setGr, e] using h2
    · refine hp_ext (fun g => ?_) (fun j => ?_)
      · by_cases e : g = p <;> simp [Hp.delO, Hp.setObj, Hp.setGr, e]
      · by_cases e : j = k2
        · simp [Hp.delO, Hp.setObj, Hp.setGr, e, encP]
        · by_cases e2 : j = k
          · simp [Hp.delO, Hp.setObj, Hp.setGr, e, e2]
            rw [← e2]; simp [e]; rw [e2]; exact hk.symm
          · simp [Hp.delO, Hp.setObj, Hp.setGr, e, e2]
theorem AllJ.gr {σ σ1 : Hp} {p : Nat} {l : List (List Bd)} (h : AllJ σ p l σ1) {k : Nat} {x : (TypeId × Nat) × List (List V)} (hk : σ.gr k = some x) : σ1.gr k = some x := by
  rcases h with ⟨rfl, rfl⟩ | ⟨k2, h2, rfl⟩
  · exact hk
  · have : k ≠ k2 := fun e => by rw [e, h2] at hk; cases hk
    simp [Hp.setGr, this, Hp.setObj, hk]
set_option maxHeartbeats 2000000 in
theorem setAll_spec (g : Nat) (rows : List (List Bd)) (σ : Hp) (hs : PSet g rows σ) (hr : rows.length * 24 ≤ 140737488355328) (hok : ∀ x ∈ rows, okI x) :
    ACalls Try.prog 43 [ptrV g] σ (fun v σ' => v = .fn (.func 95) [] [capV rows] ∧ σ' = σ) := by
  refine ACalls.sealF (R := fun v σ' => ∃ p, v = .fn (.func 95) [] [ptrV p] ∧ σ.obj p = none ∧ σ' = σ.setObj p (some [.sl (rows.map encP)])) ?_ ?_
  · refine ACalls.intro Try.call43 Try.func43 rfl Try.ntmps43 Try.results43 (by simp) ?_
    obtain ⟨lv, ho⟩ := hs.ex
    refine AW.seq_k fun K1 h1 => ?_
    all_goals refine AW.reg0 ?_
    all_goals (refine S.g rfl rfl fun K' k' => ?_; simp only [zz, reduceIte, Nat.reduceEqDiff, Nat.reduceAdd]; refine k' _ _ ?_; clear k' K')
    all_goals refine S.nil ?_
    all_goals simp only [ze, reduceIte, Nat.reduceEqDiff, Nat.reduceLT, Nat.reduceLeDiff, Nat.reduceAdd, reduceCtorEq, Nat.reduceMul]
    all_goals apply_assumption
    refine AW.seq_k fun K2 h2 => ?_
    all_goals refine AW.region (T := { hp := fun d => d == 3 }) (fun _ _ h => by cases h) rfl ?_
    all_goals (refine S.g rfl rfl fun K' k' => ?_; simp only [zz, reduceIte, Nat.reduceEqDiff, Nat.reduceLT, Nat.reduceLeDiff, Nat.reduceAdd, reduceCtorEq, Nat.reduceMul, zt64]; intro p hp <;> (refine k' _ _ ?_; clear k' K'))
    all_goals refine S.nil ?_
    all_goals simp only [ze, reduceIte, Nat.reduceEqDiff, Nat.reduceLT, Nat.reduceLeDiff, Nat.reduceAdd, reduceCtorEq, Nat.reduceMul]
    all_goals apply_assumption
    have hpg : g ≠ p := fun e => by rw [e, hp] at ho; cases ho
    refine AW.seq_j (fun s σ' => s.t 3 = .c (.pointer (some ⟨p, 0, none⟩)) ∧ AllJ σ p rows σ') ?_ ?_
    · have ho1 : (σ.setObj p (some [.c (.slice none 0 0)])).obj g = some [lv, .c (.bool true)] := by simp [hpg, ho]
      have hns := none_spec g _ _ ho1
      refine AW.seq_k fun K3 h3 => ?_
      all_goals refine AW.reg0 ?_
      all_goals (refine S.g rfl rfl fun K' k' => ?_; simp only [zz, reduceIte, Nat.reduceEqDiff, Nat.reduceAdd, ptrV]; refine k' _ _ ?_; clear k' K')
      all_goals (refine S.g rfl rfl fun K' k' => ?_; simp only [zz, reduceIte, Nat.reduceEqDiff, Nat.reduceLT, Nat.reduceLeDiff, Nat.reduceAdd, reduceCtorEq, Nat.reduceMul, ptrV]; refine hns.to fun v σ2 hv => ?_; obtain ⟨rfl, rfl⟩ := hv <;> (refine k' _ _ ?_; clear k' K'))
      all_goals (refine S.g rfl rfl fun K' k' => ?_; simp only [zz, reduceIte, Nat.reduceEqDiff, Nat.reduceAdd, ptrV]; refine k' _ _ ?_; clear k' K')
      all_goals refine S.nil ?_
      all_goals simp only [ze, reduceIte, Nat.reduceEqDiff, Nat.reduceLT, Nat.reduceLeDiff, Nat.reduceAdd, reduceCtorEq, Nat.reduceMul, ptrV]
      all_goals apply_assumption
      refine AW.cond (b := true) (by simp [ev]) (fun hc => ?_) (fun hc => by cases hc)
      rcases hs with ⟨rfl, hx1⟩ | ⟨ks, hx1, hks⟩
      · rw [ho] at hx1
        injection hx1 with hx1; injection hx1 with hx1 _; subst hx1
        refine AW.seq_k fun K4 h4 => ?_
        all_goals refine AW.reg0 ?_
        all_goals iterate 6 (refine S.g rfl rfl fun K' k' => ?_; simp only [zz, reduceIte, Nat.reduceEqDiff, Nat.reduceLT, Nat.reduceLeDiff, Nat.reduceAdd, reduceCtorEq, Nat.reduceMul, of123_0, ok64, sz64, ag64, sl64, el64, ok24, sz24, ag24, ptrV, hpg, ho, map2, List.getD_cons_zero]; refine k' _ _ ?_; clear k' K')
        all_goals refine S.nil ?_
        all_goals simp only [ze, reduceIte, Nat.reduceEqDiff, Nat.reduceLT, Nat.reduceLeDiff, Nat.reduceAdd, reduceCtorEq, Nat.reduceMul, ptrV, hpg, ho, map2, List.getD_cons_zero]
        all_goals apply_assumption
        refine AW.block ?_   -- 0
        refine AW.loop (fun m s σ' => m = 0 ∧ s.t 3 = .c (.pointer (some ⟨p, 0, none⟩)) ∧ s.t 13 = .c (.int .i64 (0 : Int)) ∧ s.t 14 = .c (.int .i64 (0 : Int)) ∧ AllJ σ p [] σ') 0 ?_ ?_
        · all_goals simp only [zs, reduceIte, Nat.reduceEqDiff, Nat.reduceLT, Nat.reduceLeDiff, Nat.reduceAdd, reduceCtorEq, Nat.reduceMul]
          exact ⟨rfl, .inl ⟨rfl, rfl⟩⟩
        rintro m s σ1 ⟨hm, e3, e13, e14, hj⟩
        refine AW.seq_k fun K5 h5 => ?_
        all_goals refine AW.reg0 ?_
        all_goals (refine S.g rfl rfl fun K' k' => ?_; simp only [zz, reduceIte, Nat.reduceEqDiff, Nat.reduceAdd, e13, e14]; refine k' _ _ ?_; clear k' K')
        all_goals refine S.nil ?_
        all_goals simp only [ze, reduceIte, Nat.reduceEqDiff, Nat.reduceLT, Nat.reduceLeDiff, Nat.reduceAdd, reduceCtorEq, Nat.reduceMul, e13, e14]
        all_goals apply_assumption
        refine AW.seq_k fun K6 h6 => ?_
        refine AW.cond (b := false) (by simp [ev]) (fun hc => by cases hc) (fun hc => ?_)
        refine AW.exit ?_
        all_goals simp only [zs, reduceIte, Nat.reduceEqDiff, Nat.reduceLT, Nat.reduceLeDiff, Nat.reduceAdd, reduceCtorEq, Nat.reduceMul, e3]
        exact hj
      · rw [ho] at hx1
        injection hx1 with hx1; injection hx1 with hx1 _; subst hx1
        refine AW.seq_k fun K7 h7 => ?_
        all_goals refine AW.reg0 ?_
        all_goals iterate 6 (refine S.g rfl rfl fun K' k' => ?_; simp only [zz, reduceIte, Nat.reduceEqDiff, Nat.reduceLT, Nat.reduceLeDiff, Nat.reduceAdd, reduceCtorEq, Nat.reduceMul, of123_0, ok64, sz64, ag64, sl64, el64, ok24, sz24, ag24, ptrV, hpg, ho, hks, map2, List.getD_cons_zero, List.length_map]; refine k' _ _ ?_; clear k' K')
        all_goals refine S.nil ?_
        all_goals simp only [ze, reduceIte, Nat.reduceEqDiff, Nat.reduceLT, Nat.reduceLeDiff, Nat.reduceAdd, reduceCtorEq, Nat.reduceMul, ptrV, hpg, ho, hks, map2, List.getD_cons_zero, List.length_map]
        all_goals apply_assumption
        refine AW.block ?_   -- 0
        refine AW.loop (fun m s σ' => ∃ i : Nat, m = rows.length - i ∧ i ≤ rows.length ∧ s.t 3 = .c (.pointer (some ⟨p, 0, none⟩)) ∧ s.t 12 = .gl ks ∧ s.t 13 = .c (.int .i64 (rows.length : Nat)) ∧ s.t 14 = .c (.int .i64 (i : Nat)) ∧ AllJ σ p (rows.take i) σ') rows.length ?_ ?_
        · refine ⟨0, by omega, Nat.zero_le _, ?_⟩
          all_goals simp only [zs, reduceIte, Nat.reduceEqDiff, Nat.reduceLT, Nat.reduceLeDiff, Nat.reduceAdd, reduceCtorEq, Nat.reduceMul]
          exact ⟨rfl, .inl ⟨rfl, rfl⟩⟩
        rintro m s σ1 ⟨i, hm, hi, e3, e12, e13, e14, hj⟩
        refine AW.seq_k fun K8 h8 => ?_
        all_goals refine AW.reg0 ?_
        all_goals (refine S.g rfl rfl fun K' k' => ?_; simp only [zz, reduceIte, Nat.reduceEqDiff, Nat.reduceAdd, e13, e14]; refine k' _ _ ?_; clear k' K')
        all_goals refine S.nil ?_
        all_goals simp only [ze, reduceIte, Nat.reduceEqDiff, Nat.reduceLT, Nat.reduceLeDiff, Nat.reduceAdd, reduceCtorEq, Nat.reduceMul, e13, e14]
        all_goals apply_assumption
        refine AW.seq_k fun K9 h9 => ?_
        refine AW.cond (b := decide (i < rows.length)) (by simp [ev]) (fun hc => ?_) (fun hc => ?_)
        · have hc := of_decide_eq_true hc
          refine AW.skip ?_
          all_goals simp only [zs, reduceIte, Nat.reduceEqDiff, Nat.reduceLT, Nat.reduceLeDiff, Nat.reduceAdd, reduceCtorEq, Nat.reduceMul]
          all_goals apply_assumption
          obtain ⟨x, hx⟩ : ∃ x, rows[i]? = some x := ⟨_, List.getElem?_eq_getElem hc⟩
          have hxm := List.mem_of_getElem? hx
          have hxe := encP_gd hx
          have hks1 := hj.gr hks
          obtain ⟨lv, ok, hop, hml, hlv, hd, hnx⟩ := hj.next
          have hw : IntKind.i64.wrap ((i : Int) + 1) = ((i + 1 : Nat) : Int) := by rw [wrap_small _ (by omega) (by omega)]; rfl
          have hlt : (rows.take i).length = i := by rw [List.length_take]; omega
          refine AW.seq_k fun K10 h10 => ?_
          refine AW.block ?_   -- 1
          refine AW.seq_k fun K11 h11 => ?_
          all_goals refine AW.reg0 ?_
          all_goals iterate 4 (refine S.g rfl rfl fun K' k' => ?_; simp only [zz, reduceIte, Nat.reduceEqDiff, Nat.reduceLT, Nat.reduceLeDiff, Nat.reduceAdd, reduceCtorEq, Nat.reduceMul, sl64, el64, ok24, sz24, ag24, zt24, e12, e14, hks1, List.length_map, hc, hxe]; refine k' _ _ ?_; clear k' K')
          all_goals refine S.nil ?_
          all_goals simp only [ze, reduceIte, Nat.reduceEqDiff, Nat.reduceLT, Nat.reduceLeDiff, Nat.reduceAdd, reduceCtorEq, Nat.reduceMul, e12, e14, hks1, List.length_map, hc, hxe]
          all_goals apply_assumption
          all_goals refine AW.drawF (T := { sd := fun d => d == 5 }) (fun _ _ h => by cases h) mixedO (.fork 0 (.st 1 2 (.st 2 2 (.st 3 2 (.st 4 2 (.st 5 2 .nil))))) 1 (.fork 0 (.st 2 2 (.st 3 2 (.st 4 2 (.st 5 2 .nil)))) 2 (.fork 0 (.st 3 2 (.st 4 2 (.st 5 2 .nil))) 3 (.st 0 2 (.st 4 2 (.st 5 2 .nil)))))) rfl (by kernel_rfl) (by kernel_rfl) ?_
          all_goals (try first | refine F.fork ?_ ?_ | refine F.fork3 ?_ ?_ ?_)
          all_goals first | (refine F.g rfl trivial rfl rfl fun K' k' => ?_; simp only [zz, reduceIte, Nat.reduceEqDiff, Nat.reduceLT, Nat.reduceLeDiff, Nat.reduceAdd, reduceCtorEq, Nat.reduceMul, ok64, sz64, ag64, e3, hop, hml, ok64, sz64, ag64, hd, delO_obj, List.length_cons, List.length_nil, List.getD_cons_zero, List.drop_succ_cons, List.drop_nil, true_and]; refine k' _ _ ?_; clear k' K') | (refine F.g rfl trivial rfl rfl fun K' k' => ?_; simp only [zz, reduceIte, Nat.reduceEqDiff, Nat.reduceLT, Nat.reduceLeDiff, Nat.reduceAdd, reduceCtorEq, Nat.reduceMul, ok24, sz24, ag24, e3, hop, hml, ok64, sz64, ag64, hd, delO_obj, List.length_cons, List.length_nil, List.getD_cons_zero, List.drop_succ_cons, List.drop_nil, true_and]; refine k' _ _ ?_; clear k' K')
          all_goals (try first | refine F.fork ?_ ?_ | refine F.fork3 ?_ ?_ ?_)
          all_goals first | (refine F.g rfl trivial rfl rfl fun K' k' => ?_; simp only [zz, reduceIte, Nat.reduceEqDiff, Nat.reduceLT, Nat.reduceLeDiff, Nat.reduceAdd, reduceCtorEq, Nat.reduceMul, e3, hop, hml, ok64, sz64, ag64, hd, delO_obj, List.length_cons, List.length_nil, List.getD_cons_zero, List.drop_succ_cons, List.drop_nil, true_and]; refine PCalls.eqto (clone_part x (hok x hxm).attrs (hok x hxm).len) ?_ <;> (refine k' _ _ ?_; clear k' K')) | (refine F.g rfl trivial rfl rfl fun K' k' => ?_; simp only [zz, reduceIte, Nat.reduceEqDiff, Nat.reduceLT, Nat.reduceLeDiff, Nat.reduceAdd, reduceCtorEq, Nat.reduceMul, ok24, sz24, ag24, e3, hop, hml, ok64, sz64, ag64, hd, delO_obj, List.length_cons, List.length_nil, List.getD_cons_zero, List.drop_succ_cons, List.drop_nil, true_and]; refine k' _ _ ?_; clear k' K') | (refine F.g rfl trivial rfl rfl fun K' k' => ?_; simp only [zz, reduceIte, Nat.reduceEqDiff, Nat.reduceLT, Nat.reduceLeDiff, Nat.reduceAdd, reduceCtorEq, Nat.reduceMul, ok64, sz64, ag64, e3, hop, hml, ok64, sz64, ag64, hd, delO_obj, List.length_cons, List.length_nil, List.getD_cons_zero, List.drop_succ_cons, List.drop_nil, true_and]; refine k' _ _ ?_; clear k' K')
          all_goals (try first | refine F.fork ?_ ?_ | refine F.fork3 ?_ ?_ ?_)
          all_goals first | (refine F.g rfl trivial rfl rfl fun K' k' => ?_; simp only [zz, reduceIte, Nat.reduceEqDiff, Nat.reduceLT, Nat.reduceLeDiff, Nat.reduceAdd, reduceCtorEq, Nat.reduceMul, e3, hop, hml, ok64, sz64, ag64, hd, delO_obj, List.length_cons, List.length_nil, List.getD_cons_zero, List.drop_succ_cons, List.drop_nil, true_and]; refine PCalls.eqto (clone_part x (hok x hxm).attrs (hok x hxm).len) ?_ <;> (refine k' _ _ ?_; clear k' K')) | (refine F.g rfl trivial rfl rfl fun K' k' => ?_; simp only [zz, reduceIte, Nat.reduceEqDiff, Nat.reduceLT, Nat.reduceLeDiff, Nat.reduceAdd, reduceCtorEq, Nat.reduceMul, ok64, sz64, ag64, e3, hop, hml, ok64, sz64, ag64, hd, delO_obj, List.length_cons, List.length_nil, List.getD_cons_zero, List.drop_succ_cons, List.drop_nil, true_and]; refine k' _ _ ?_; clear k' K') | (refine F.g rfl trivial rfl rfl fun K' k' => ?_; simp only [zb, reduceIte, Nat.reduceEqDiff, Nat.reduceLT, Nat.reduceLeDiff, Nat.reduceAdd, reduceCtorEq, Nat.reduceMul, sl64, el64, ok24, sz24, ag24, zt24, by24, e3, hop, hml, ok64, sz64, ag64, hd, delO_obj, List.length_cons, List.length_nil, List.getD_cons_zero, List.drop_succ_cons, List.drop_nil, true_and]; refine k' _ _ ?_; clear k' K')
          all_goals first | (refine F.g rfl trivial rfl rfl fun K' k' => ?_; simp only [zb, reduceIte, Nat.reduceEqDiff, Nat.reduceLT, Nat.reduceLeDiff, Nat.reduceAdd, reduceCtorEq, Nat.reduceMul, sl64, el64, ok24, sz24, ag24, zt24, by24, e3, hop, hml, ok64, sz64, ag64, hd, delO_obj, List.length_cons, List.length_nil, List.getD_cons_zero, List.drop_succ_cons, List.drop_nil, true_and]; refine k' _ _ ?_; clear k' K') | (refine F.g rfl trivial rfl rfl fun K' k' => ?_; simp only [zz, reduceIte, Nat.reduceEqDiff, Nat.reduceLT, Nat.reduceLeDiff, Nat.reduceAdd, reduceCtorEq, Nat.reduceMul, ok64, sz64, ag64, e3, hop, hml, ok64, sz64, ag64, hd, delO_obj, List.length_cons, List.length_nil, List.getD_cons_zero, List.drop_succ_cons, List.drop_nil, true_and]; refine k' _ _ ?_; clear k' K')
          all_goals (refine F.g rfl trivial rfl rfl fun K' k' => ?_; simp only [zz, reduceIte, Nat.reduceEqDiff, Nat.reduceLT, Nat.reduceLeDiff, Nat.reduceAdd, reduceCtorEq, Nat.reduceMul, sl64, el64, ok24, sz24, ag24, zt24, by24, e3, hop, hml, ok64, sz64, ag64, hd, delO_obj, List.length_cons, List.length_nil, List.getD_cons_zero, List.drop_succ_cons, List.drop_nil, true_and]; refine ⟨fun e he => by (simp at he; rw [he]; rfl), by unfold maxLen; simp; omega, by unfold reach; simp; omega, fun k2 hk2 => ?_⟩ <;> (refine k' _ _ ?_; clear k' K'))
          all_goals (refine F.g rfl trivial rfl rfl fun K' k' => ?_; simp only [zz, reduceIte, Nat.reduceEqDiff, Nat.reduceLT, Nat.reduceLeDiff, Nat.reduceAdd, reduceCtorEq, Nat.reduceMul, ok64, sz64, ag64, e3, hop, hml, ok64, sz64, ag64, hd, delO_obj, List.length_cons, List.length_nil, List.getD_cons_zero, List.drop_succ_cons, List.drop_nil, true_and]; refine k' _ _ ?_; clear k' K')
          all_goals refine F.nil ?_
          all_goals simp only [ze, reduceIte, Nat.reduceEqDiff, Nat.reduceLT, Nat.reduceLeDiff, Nat.reduceAdd, reduceCtorEq, Nat.reduceMul, e3, hop, hml, ok64, sz64, ag64, hd, delO_obj, List.length_cons, List.length_nil, List.getD_cons_zero, List.drop_succ_cons, List.drop_nil, true_and]
          all_goals apply_assumption
          all_goals refine AW.reg0 ?_
          all_goals iterate 2 (refine S.g rfl rfl fun K' k' => ?_; simp only [zz, reduceIte, Nat.reduceEqDiff, Nat.reduceAdd, e14, hw]; refine k' _ _ ?_; clear k' K')
          all_goals refine S.nil ?_
          all_goals simp only [ze, reduceIte, Nat.reduceEqDiff, Nat.reduceLT, Nat.reduceLeDiff, Nat.reduceAdd, reduceCtorEq, Nat.reduceMul, e14, hw]
          all_goals
            refine ⟨m - 1, by omega, i + 1, by omega, by omega, ?_⟩
            have hfin := hnx k2 x hk2
            rw [← show rows.take (i + 1) = rows.take i ++ [x] by rw [List.take_add_one, hx]; rfl] at hfin
          all_goals simp only [zs, reduceIte, Nat.reduceEqDiff, Nat.reduceLT, Nat.reduceLeDiff, Nat.reduceAdd, reduceCtorEq, Nat.reduceMul, e3, e12, e13, e14]
          all_goals exact hfin
        · have hc := of_decide_eq_false hc
          refine AW.exit ?_
          all_goals simp only [zs, reduceIte, Nat.reduceEqDiff, Nat.reduceLT, Nat.reduceLeDiff, Nat.reduceAdd, reduceCtorEq, Nat.reduceMul, e3]
          have : i = rows.length := by omega
          subst this
          rw [List.take_length] at hj
          exact hj
    rintro s σ1 ⟨e3, hj⟩
    refine AW.seq_k fun K12 h12 => ?_
    all_goals refine AW.reg0 ?_
    all_goals iterate 2 (refine S.g rfl rfl fun K' k' => ?_; simp only [zz, reduceIte, Nat.reduceEqDiff, Nat.reduceAdd, e3]; refine k' _ _ ?_; clear k' K')
    all_goals refine S.nil ?_
    all_goals simp only [ze, reduceIte, Nat.reduceEqDiff, Nat.reduceLT, Nat.reduceLeDiff, Nat.reduceAdd, reduceCtorEq, Nat.reduceMul, e3]
    all_goals apply_assumption
    rcases hj with ⟨rfl, rfl⟩ | ⟨k, hk, rfl⟩
    · refine AW.nilO (g := p) (cells := [.c (.slice none 0 0)]) (by simp) rfl (AW.ret ?_)
      all_goals simp only [zs, reduceIte, Nat.reduceEqDiff, Nat.reduceLT, Nat.reduceLeDiff, Nat.reduceAdd, reduceCtorEq, Nat.reduceMul]
      refine ⟨p, rfl, hp, ?_⟩
      simp [wk1]
    · refine AW.freezeO (k := k) (g := p) (T := (24, 1)) (es := rows.map encP) (cells := [.gl k]) (by simp) (by simp) rfl (AW.ret ?_)
      all_goals simp only [zs, reduceIte, Nat.reduceEqDiff, Nat.reduceLT, Nat.reduceLeDiff, Nat.reduceAdd, reduceCtorEq, Nat.reduceMul, fzV, fz1, St.fz_t, St.fz_l]
      refine ⟨p, rfl, hp, ?_⟩
      refine hp_ext (fun g => ?_) (fun j => ?_)
      · by_cases e : g = p <;> simp [Hp.setObj, Hp.setGr, e, fz1]
      · by_cases e : j = k
        · simp [Hp.setObj, Hp.setGr, e, hk]
        · simp [Hp.setObj, Hp.setGr, e]
  · rintro v σ' ⟨p, rfl, hp, rfl⟩
    refine ⟨p, [.sl (rows.map encP)], .func 95, rfl, by simp, rfl, by simp, rfl, ?_⟩
    refine hp_ext (fun g => ?_) (fun j => rfl)
    by_cases e : g = p
    · simp [e, hp]
    · simp [e]
end Go.Abs.M
namespace Go.Abs
open Go
section
variable {P : Program}
/-- A call that leaves things of its own behind, of which nobody knows. -/
theorem ACalls.bare {f : FuncId} {args : List V} {R : V → Hp → Prop} {R' : V → Prop} (h : ACalls P f args Hp.empty R) (hr : ∀ v σ', R v σ' → R' v) : PCalls P f args R' :=
  ⟨h.1, fun cx w xs hH ha => (h.2 cx w xs hH ha).mono fun e w' ⟨v, r, cx', σ', h1, h2, h3, h4⟩ =>
    ⟨v, r, cx', Hp.empty, h1, h2, ⟨h3.heap.sub (fun _ _ h => by cases h) (fun _ _ h => by cases h), ⟨h3.ext.os, h3.ext.tape, h3.ext.output, h3.ext.size, h3.ext.block, h3.ext.le, h3.ext.inew, fun g hg => (own_empty hg).elim⟩, fun k x hk => (by cases hk), fun g x hx => (by cases hx)⟩, rfl, hr v σ' h4⟩⟩
end
end Go.Abs
