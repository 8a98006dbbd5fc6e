/-
  A logic for Go functions over plain data, part L: regions, code, functions.
-/
import Derived.Test.YtagllokfkliaoaaDmK
namespace Go.Dm
open Go.RowKit
section
variable {P : Program} {G : Gh} {s : S} {a : Act} {w : World} {A : Nat → Prop} {β : Nat → Option Nat} {o : Oper}

/-- Slots that are written are slots of the frame, and none that stays. -/
def Free (G : Gh) (l : List Nat) : Prop := ∀ t, t ∈ l → t < G.nt ∧ ∀ y, ¬ G.T t y

theorem cOp_spec {nt : Nat} {ops : List Oper} {op : Op1} (h : cOp P nt ops o = some op) : cI P o = some op.i ∧ op.d = o.dst ∧ (∀ t, o.dst = some t → t < nt) ∧
    ((op.g = none ∧ o.guard = none) ∨ ∃ j b gt, o.guard = some (j, b) ∧ (ops[j]?).bind (·.dst) = some gt ∧ gt < nt ∧ op.g = some (gt, b)) := by
  unfold cOp at h
  simp only [Option.bind_eq_bind, Option.pure_def, Option.bind_eq_some_iff] at h
  obtain ⟨i, h1, d, h2, h⟩ := h
  have hd : d = o.dst ∧ ∀ t, o.dst = some t → t < nt := by
    cases hdst : o.dst with
    | none => rw [hdst] at h2; simp at h2; exact ⟨h2.symm, fun t e => by cases e⟩
    | some t =>
      rw [hdst] at h2
      simp only at h2
      split at h2
      · next hlt => simp at h2; exact ⟨h2.symm, fun u e => by cases e; exact hlt⟩
      · cases h2
  split at h
  · next hg => simp only [Option.some.injEq] at h; subst h; exact ⟨h1, hd.1, hd.2, .inl ⟨rfl, hg⟩⟩
  · next j b hg =>
    simp only [Option.bind_eq_some_iff] at h
    obtain ⟨gt, h3, h⟩ := h
    split at h
    · next hlt => cases h; exact ⟨h1, hd.1, hd.2, .inr ⟨j, b, gt, hg, by simpa [Option.bind_eq_some_iff] using h3, hlt, rfl⟩⟩
    · cases h

theorem wanted_none {ops : Array Oper} (h : o.guard = none) : Region.wanted o (yielded ops a.tmps) = true := by simp [Region.wanted, h]
theorem wanted_some {ops : Array Oper} {j gt : Nat} {b t : Bool} (h : o.guard = some (j, b)) (hj : (ops[j]?).bind (·.dst) = some gt) (hv : a.tmps.getD gt undef = .bool t) (hlt : gt < a.tmps.size) : Region.wanted o (yielded ops a.tmps) = (t == b) := by
  have : a.tmps[gt]? = some (.bool t) := by
    have h1 : a.tmps[gt] = .bool t := by simpa [hlt] using hv
    rw [Array.getElem?_eq_getElem hlt, h1]
  simp [Region.wanted, h, yielded, hj, this]

theorem Free.dst {l : List Op1} {op : Op1} {r : List Op1} (h : Free G (asgOps (op :: r))) (_hl : l = op :: r) : (∀ t, op.d = some t → t < G.nt ∧ ∀ y, ¬ G.T t y) ∧ (∀ t b, op.g = some (t, b) → t < G.nt ∧ ∀ y, ¬ G.T t y) ∧ Free G (asgOps r) := by
  refine ⟨fun t e => h t ?_, fun t b e => h t ?_, fun t ht => h t ?_⟩
  · simp [asgOps, e]
  · simp [asgOps, e]
  · simp only [asgOps, List.mem_append, List.mem_filterMap, List.mem_cons] at ht ⊢
    rcases ht with ⟨x, h1, h2⟩ | ⟨x, h1, h2⟩
    · exact .inl ⟨x, .inr h1, h2⟩
    · exact .inr ⟨x, .inr h1, h2⟩

/-- A region whose operations come in order. -/
theorem ops_sound {Q : Exit → Act → World → Prop} {ops : Array Oper} : ∀ (l : List Oper) (l' : List Op1), (l.mapM (cOp P G.nt ops.toList)) = some l' → Free G (asgOps l') → ∀ (K : S → Prop) (s : S) (a : Act) (w : World), vcOps P l' K s → SR G s a w →
    (∀ s' a' w', K s' → SR G s' a' w' → Q .normal a' w') → wpList P ops Q l a w
  | [], l', h, _, K, s, a, w, hv, hs, hQ => by
    simp at h; subst h
    exact hQ _ _ _ hv hs
  | o :: l, l', h, hF, K, s, a, w, hv, ⟨A, β, g⟩, hQ => by
    simp only [List.mapM_cons, Option.bind_eq_bind, Option.pure_def, Option.bind_eq_some_iff] at h
    obtain ⟨op, h1, r, h2, h⟩ := h
    cases h
    obtain ⟨hi, hd, hlt, hg⟩ := cOp_spec h1
    obtain ⟨f1, f2, f3⟩ := hF.dst rfl
    have ih : ∀ (K : S → Prop) (s : S) (a : Act) (w : World), vcOps P r K s → SR G s a w → (∀ s' a' w', K s' → SR G s' a' w' → Q .normal a' w') → wpList P ops Q l a w := fun K => ops_sound l r h2 f3 K
    have run : ∀ (s : S) (A : Nat → Prop) (β : Nat → Option Nat), vcI P op.i op.d (vcOps P r K) s → GR G s a w A β → o.wp P a w (wpList P ops Q l) Q := by
      intro s A β hv g
      rw [hd] at hv
      exact op_sound hi (fun t e => f1 t (by rw [hd]; exact e)) hv g _ _ (fun s' a' w' hk hs => ih K s' a' w' hk hs hQ)
    have skip : ∀ (s : S) (A : Nat → Prop) (β : Nat → Option Nat), skipK op.d (vcOps P r K) s → GR G s a w A β → wpList P ops Q l (a.put o.dst undef) w := by
      intro s A β hv g
      unfold skipK at hv
      rw [hd] at hv
      exact ih K _ _ _ hv ⟨A, β, g.put DR.junk (fun t e => f1 t (by rw [hd]; exact e))⟩ hQ
    obtain ⟨og, od, oi⟩ := op
    unfold wpList
    rcases hg with ⟨hg, hgu⟩ | ⟨j, b, gt, hgu, hj, hgl, hg⟩
    · simp only at hg
      subst hg
      rw [if_pos (wanted_none hgu)]
      exact .inl (run s A β hv g)
    · simp only at hg
      subst hg
      have hv' : kGd (s.ρ gt) gt b (vcI P oi od (vcOps P r K)) (skipK od (vcOps P r K)) s := hv
      unfold kGd at hv'
      split at hv'
      · next t ht =>
        have hsl := g.slots gt
        rw [ht] at hsl
        have hval := dr_bool hsl
        have hw := wanted_some (ops := ops) (b := b) hgu (by simpa using hj) hval (by rw [g.size]; exact hgl)
        have g' : ∀ t', t = t' → GR G (s.put (some gt) (.v (.bool t'))) a w A β := by
          intro t' e
          have := g.put (d := some gt) (v := a.tmps.getD gt undef) hsl (fun u e => by cases e; exact f2 gt b rfl)
          have e2 : a.put (some gt) (a.tmps.getD gt undef) = a := by
            simp only [Act.put]
            have : a.tmps.setIfInBounds gt (a.tmps.getD gt undef) = a.tmps := by
              apply Array.ext_getElem?
              intro i
              rw [Array.getElem?_setIfInBounds]
              by_cases h : gt = i
              · subst h
                have : gt < a.tmps.size := by rw [g.size]; exact hgl
                simp [this]
              · simp [h]
            rw [this]
          rw [e2, e] at this
          exact this
        rw [hw]
        cases t with
        | true =>
          have h1 := hv'.1 rfl
          cases b with
          | true => exact .inl (run _ A β h1 (g' true rfl))
          | false => exact skip _ A β h1 (g' true rfl)
        | false =>
          have h1 := hv'.2 rfl
          cases b with
          | true => exact skip _ A β h1 (g' false rfl)
          | false => exact .inl (run _ A β h1 (g' false rfl))
      · exact hv'.elim

/-- A region that draws, all of whose operations read: whatever the order. -/
theorem quiet_sound {Q : Exit → Act → World → Prop} {ops : Array Oper} {C : World → Prop} {w0 : World} (hC : ∀ w', C w' → Below w0.heap.size w0 w') : ∀ (l : List Oper) (l' : List Op1), (l.mapM (cOp P G.nt ops.toList)) = some l' → l'.all (fun o => o.i.quiet) = true → Free G (asgOps l') →
    ∀ (K : S → Prop) (s : S) (a : Act) (A : Nat → Prop) (β : Nat → Option Nat), vcOps P l' K s → GR G s a w0 A β →
    (∀ s' a', K s' → GR G s' a' w0 A β → ∀ w', C w' → Q .normal a' w') → wpQuiet P ops C (fun a' => ∀ w', C w' → Q .normal a' w') l a
  | [], l', h, _, _, K, s, a, A, β, hv, g, hQ => by
    simp at h; subst h
    exact fun w' hw' => hQ s a hv g w' hw'
  | o :: l, l', h, hq, hF, K, s, a, A, β, hv, g, hQ => by
    simp only [List.mapM_cons, Option.bind_eq_bind, Option.pure_def, Option.bind_eq_some_iff] at h
    obtain ⟨op, h1, r, h2, h⟩ := h
    cases h
    simp only [List.all_cons, Bool.and_eq_true] at hq
    obtain ⟨hi, hd, hlt, hg⟩ := cOp_spec h1
    obtain ⟨f1, f2, f3⟩ := hF.dst rfl
    have ih := fun (K : S → Prop) (s : S) (a : Act) => quiet_sound (Q := Q) hC l r h2 hq.2 f3 K s a A β
    have run : ∀ (s : S), vcI P op.i op.d (vcOps P r K) s → GR G s a w0 A β → o.quiet P a C (wpQuiet P ops C (fun a' => ∀ w', C w' → Q .normal a' w') l) := by
      intro s hv g
      rw [vcI_pu hq.1] at hv
      obtain ⟨d, v, hk, hdr, hy⟩ := pu_all hi hq.1 hv g
      refine ⟨v, fun w' hw' => ?_, ih K _ _ hk ?_ hQ⟩
      · unfold Oper.quietAt
        rw [hy w' (Same.below (hC w' hw'))]
        exact ⟨rfl, rfl⟩
      · rw [hd]; exact g.put hdr (fun t e => f1 t (by rw [hd]; exact e))
    have skip : ∀ (s : S), skipK op.d (vcOps P r K) s → GR G s a w0 A β → wpQuiet P ops C (fun a' => ∀ w', C w' → Q .normal a' w') l (a.put o.dst undef) := by
      intro s hv g
      unfold skipK at hv
      rw [hd] at hv
      exact ih K _ _ hv (g.put DR.junk (fun t e => f1 t (by rw [hd]; exact e))) hQ
    obtain ⟨og, od, oi⟩ := op
    unfold wpQuiet
    rcases hg with ⟨hg, hgu⟩ | ⟨j, b, gt, hgu, hj, hgl, hg⟩
    · simp only at hg
      subst hg
      rw [if_pos (wanted_none hgu)]
      exact run s hv g
    · simp only at hg
      subst hg
      have hv' : kGd (s.ρ gt) gt b (vcI P oi od (vcOps P r K)) (skipK od (vcOps P r K)) s := hv
      unfold kGd at hv'
      split at hv'
      · next t ht =>
        have hsl := g.slots gt
        rw [ht] at hsl
        have hval := dr_bool hsl
        have hw := wanted_some (ops := ops) (b := b) hgu (by simpa using hj) hval (by rw [g.size]; exact hgl)
        have g' : ∀ t', t = t' → GR G (s.put (some gt) (.v (.bool t'))) a w0 A β := by
          intro t' e
          have := g.put (d := some gt) (v := a.tmps.getD gt undef) hsl (fun u e => by cases e; exact f2 gt b rfl)
          have e2 : a.put (some gt) (a.tmps.getD gt undef) = a := by
            simp only [Act.put]
            have : a.tmps.setIfInBounds gt (a.tmps.getD gt undef) = a.tmps := by
              apply Array.ext_getElem?
              intro i
              rw [Array.getElem?_setIfInBounds]
              by_cases h : gt = i
              · subst h
                have : gt < a.tmps.size := by rw [g.size]; exact hgl
                simp [this]
              · simp [h]
            rw [this]
          rw [e2, e] at this
          exact this
        rw [hw]
        cases t with
        | true =>
          have h1 := hv'.1 rfl
          cases b with
          | true => exact run _ h1 (g' true rfl)
          | false => exact skip _ h1 (g' true rfl)
        | false =>
          have h1 := hv'.2 rfl
          cases b with
          | true => exact skip _ h1 (g' false rfl)
          | false => exact run _ h1 (g' false rfl)
      · exact hv'.elim

/-- Operations that read, ahead of others. -/
theorem still_sound {Q : Act → Prop} {ops : Array Oper} {w0 : World} : ∀ (l : List Oper) (l' : List Op1), (l.mapM (cOp P G.nt ops.toList)) = some l' → l'.all (fun o => o.i.quiet) = true → Free G (asgOps l') →
    ∀ (K : S → Prop) (s : S) (a : Act) (A : Nat → Prop) (β : Nat → Option Nat), vcOps P l' K s → GR G s a w0 A β →
    (∀ s' a', K s' → GR G s' a' w0 A β → Q a') → wpStill P ops w0 Q l a
  | [], l', h, _, _, K, s, a, A, β, hv, g, hQ => by
    simp at h; subst h
    exact hQ s a hv g
  | o :: l, l', h, hq, hF, K, s, a, A, β, hv, g, hQ => by
    simp only [List.mapM_cons, Option.bind_eq_bind, Option.pure_def, Option.bind_eq_some_iff] at h
    obtain ⟨op, h1, r, h2, h⟩ := h
    cases h
    simp only [List.all_cons, Bool.and_eq_true] at hq
    obtain ⟨hi, hd, hlt, hg⟩ := cOp_spec h1
    obtain ⟨f1, f2, f3⟩ := hF.dst rfl
    have ih := fun (K : S → Prop) (s : S) (a : Act) => still_sound (Q := Q) (w0 := w0) (ops := ops) l r h2 hq.2 f3 K s a A β
    have run : ∀ (s : S), vcI P op.i op.d (vcOps P r K) s → GR G s a w0 A β → o.still P a w0 (wpStill P ops w0 Q l) := by
      intro s hv g
      rw [vcI_pu hq.1] at hv
      obtain ⟨d, v, hk, hdr, hy⟩ := pu_all hi hq.1 hv g
      unfold Oper.still
      rw [hy w0 (Same.refl _), Oper.stillUpon_value]
      refine ih K _ _ hk ?_ hQ
      rw [hd]; exact g.put hdr (fun t e => f1 t (by rw [hd]; exact e))
    have skip : ∀ (s : S), skipK op.d (vcOps P r K) s → GR G s a w0 A β → wpStill P ops w0 Q l (a.put o.dst undef) := by
      intro s hv g
      unfold skipK at hv
      rw [hd] at hv
      exact ih K _ _ hv (g.put DR.junk (fun t e => f1 t (by rw [hd]; exact e))) hQ
    obtain ⟨og, od, oi⟩ := op
    unfold wpStill
    rcases hg with ⟨hg, hgu⟩ | ⟨j, b, gt, hgu, hj, hgl, hg⟩
    · simp only at hg
      subst hg
      rw [if_pos (wanted_none hgu)]
      exact run s hv g
    · simp only at hg
      subst hg
      have hv' : kGd (s.ρ gt) gt b (vcI P oi od (vcOps P r K)) (skipK od (vcOps P r K)) s := hv
      unfold kGd at hv'
      split at hv'
      · next t ht =>
        have hsl := g.slots gt
        rw [ht] at hsl
        have hval := dr_bool hsl
        have hw := wanted_some (ops := ops) (b := b) hgu (by simpa using hj) hval (by rw [g.size]; exact hgl)
        have g' : ∀ t', t = t' → GR G (s.put (some gt) (.v (.bool t'))) a w0 A β := by
          intro t' e
          have := g.put (d := some gt) (v := a.tmps.getD gt undef) hsl (fun u e => by cases e; exact f2 gt b rfl)
          have e2 : a.put (some gt) (a.tmps.getD gt undef) = a := by
            simp only [Act.put]
            have : a.tmps.setIfInBounds gt (a.tmps.getD gt undef) = a.tmps := by
              apply Array.ext_getElem?
              intro i
              rw [Array.getElem?_setIfInBounds]
              by_cases h : gt = i
              · subst h
                have : gt < a.tmps.size := by rw [g.size]; exact hgl
                simp [this]
              · simp [h]
            rw [this]
          rw [e2, e] at this
          exact this
        rw [hw]
        cases t with
        | true =>
          have h1 := hv'.1 rfl
          cases b with
          | true => exact run _ h1 (g' true rfl)
          | false => exact skip _ h1 (g' true rfl)
        | false =>
          have h1 := hv'.2 rfl
          cases b with
          | true => exact skip _ h1 (g' false rfl)
          | false => exact run _ h1 (g' false rfl)
      · exact hv'.elim

theorem vcOps_append (l1 l2 : List Op1) (K : S → Prop) : ∀ s, vcOps P (l1 ++ l2) K s = vcOps P l1 (vcOps P l2 K) s := by
  have e : ∀ l1 : List Op1, vcOps P (l1 ++ l2) K = vcOps P l1 (vcOps P l2 K) := by
    intro l1
    induction l1 with
    | nil => rfl
    | cons op l ih =>
      obtain ⟨g, d, i⟩ := op
      funext s
      cases g with
      | none => simp only [List.cons_append, vcOps, ih]
      | some gb => obtain ⟨g, b⟩ := gb; simp only [List.cons_append, vcOps, ih]
  intro s; rw [e l1]

theorem mapM_take {α γ : Type} {f : α → Option γ} : ∀ (l : List α) (l' : List γ) (n : Nat), l.mapM f = some l' → (l.take n).mapM f = some (l'.take n) ∧ (l.drop n).mapM f = some (l'.drop n)
  | l, l', 0, h => by simp [h]
  | [], l', n + 1, h => by simp at h; subst h; simp
  | x :: l, l', n + 1, h => by
    simp only [List.mapM_cons, Option.bind_eq_bind, Option.pure_def, Option.bind_eq_some_iff] at h
    obtain ⟨y, h1, r, h2, h⟩ := h
    cases h
    obtain ⟨i1, i2⟩ := mapM_take l r n h2
    exact ⟨by simp [h1, i1], by simpa using i2⟩

theorem asgOps_sub {l l' : List Op1} (h : ∀ x, x ∈ l' → x ∈ l) : ∀ t, t ∈ asgOps l' → t ∈ asgOps l := by
  intro t ht
  simp only [asgOps, List.mem_append, List.mem_filterMap] at ht ⊢
  rcases ht with ⟨x, h1, h2⟩ | ⟨x, h1, h2⟩
  · exact .inl ⟨x, h x h1, h2⟩
  · exact .inr ⟨x, h x h1, h2⟩

/-- A region, in whatever order it comes. -/
theorem region_sound {Q : Exit → Act → World → Prop} {ops : Array Oper} {id : Nat} {draw : Bool} {m : MC} (hmix : P.follows .mixedOrders = true) (hc : cC P G.nt (.region id ops draw) = some m) (hF : Free G (asg m)) {K : S → Prop} {s : S} {a : Act} {w : World}
    (hv : ∃ q l, m = .reg q l ∧ vcOps P l K s) (hs : SR G s a w) (hQ : ∀ s' a' w', K s' → SR G s' a' w' → Q .normal a' w') : (Code.region id ops draw).wp P Q a w := by
  obtain ⟨q, l, rfl, hv⟩ := hv
  simp only [cC, Option.bind_eq_bind, Option.bind_eq_some_iff] at hc
  obtain ⟨l0, h1, hc⟩ := hc
  have hF' : Free G (asgOps l) := hF
  cases draw with
  | false =>
    simp only [Bool.false_eq_true, if_false, Option.pure_def, Option.some.injEq, MC.reg.injEq] at hc
    obtain ⟨rfl, rfl⟩ := hc
    exact wp_region_list (ops_sound ops.toList l0 h1 hF' K s a w hv hs hQ)
  | true =>
    simp only [if_true, Option.bind_eq_some_iff, Option.pure_def, Option.some.injEq, MC.reg.injEq] at hc
    obtain ⟨q', hmode, rfl, rfl⟩ := hc
    obtain ⟨A, β, g⟩ := hs
    have hb1 : Below w.heap.size w { w with drawn := w.drawn + 1 } := ⟨rfl, rfl, rfl, Nat.le_refl _, fun _ _ => rfl⟩
    unfold mode at hmode
    split at hmode
    · next hq =>
      simp only [Bool.and_eq_true] at hq
      refine wp_region_quiet (C := fun w' => Below w.heap.size w w') hmix hq.2 hb1 ?_
      exact quiet_sound (C := fun w' => Below w.heap.size w w') (fun w' h => h) ops.toList l0 h1 hq.1 hF' K s a A β hv g (fun s' a' hk g' w' hw' => hQ s' a' w' hk ⟨A, β, g'.world hw'⟩)
    · obtain ⟨n, hn1, hn2⟩ := List.exists_of_findSome?_eq_some hmode
      split at hn2
      · next hB =>
        have hn : n ≤ (l0.takeWhile fun o => o.i.quiet).length := by
          have := List.mem_reverse.1 hn1
          have := List.mem_range.1 this
          omega
        have hall : (l0.take n).all (fun o => o.i.quiet) = true := by
          rw [List.all_eq_true]
          intro x hx
          have h2 : l0.take n = (l0.takeWhile fun o => o.i.quiet).take n := by
            have h3 : l0 = (l0.takeWhile fun o => o.i.quiet) ++ l0.dropWhile (fun o => o.i.quiet) := (List.takeWhile_append_dropWhile).symm
            conv => lhs; rw [h3]
            rw [List.take_append_of_le_length hn]
          rw [h2] at hx
          have h4 := List.mem_of_mem_take hx
          have := List.all_takeWhile (p := fun o : Op1 => o.i.quiet) (l := l0)
          rw [List.all_eq_true] at this
          exact this x h4
        obtain ⟨t1, t2⟩ := mapM_take ops.toList l0 n h1
        have hsplit : vcOps P (l0.take n) (vcOps P (l0.drop n) K) s := by
          rw [← vcOps_append, List.take_append_drop]; exact hv
        have hg1 := g.world hb1
        have e : ops = ops.toList.toArray := by simp
        have key := wp_region_still_tail (P := P) (id := id) (Q := Q) (a := a) (w := w) (l := ops.toList) n hmix (by simpa using hB)
          (still_sound (Q := fun a' => wpList P ops.toList.toArray Q (ops.toList.drop n) a' { w with drawn := w.drawn + 1 }) (ops := ops.toList.toArray) (ops.toList.take n) (l0.take n) (by simpa using t1) hall (fun t ht => hF' t (asgOps_sub (fun x h => List.mem_of_mem_take h) t ht)) _ s a A β hsplit hg1
            (fun s' a' hk g' => ops_sound (ops := ops.toList.toArray) (ops.toList.drop n) (l0.drop n) (by simpa using t2) (fun t ht => hF' t (asgOps_sub (fun x h => List.mem_of_mem_drop h) t ht)) K s' a' _ hk ⟨A, β, g'⟩ hQ))
        rw [← e] at key
        exact key
      · cases hn2
end
end Go.Dm
