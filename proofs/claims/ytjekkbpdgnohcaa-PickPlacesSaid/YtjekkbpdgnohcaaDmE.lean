/-
  A logic for Go functions over plain data, part E: struct literals; all reading instructions in one word.
-/
import Derived.Test.YtjekkbpdgnohcaaDmC
set_option linter.unusedSimpArgs false
set_option linter.unusedVariables false
namespace Go.Dm
open Go.RowKit
section
variable {P : Program} {G : Gh} {s : S} {a : Act} {w : World} {A : Nat → Prop} {β : Nat → Option Nat} {γ : Nat → Option (Nat × List Nat)} {o : Oper} {k : D → Prop}
theorem run_mapM {α γ : Type} (f : α → Sem γ) (g : α → γ) (w : World) : ∀ (l : List α), (∀ x, x ∈ l → (f x).run P w = .ok (g x) w) → (l.mapM f).run P w = .ok (l.map g) w
  | [], _ => by simp
  | x :: l, h => by
    simp only [List.mapM_cons, Sem.run_bind, h x (by simp), Result.andThen_ok, run_mapM f g w l (fun y hy => h y (by simp [hy])), Sem.run_pure, List.map_cons]
theorem run_amapM {α γ : Type} (f : α → Sem γ) (g : α → γ) (w : World) (l : Array α) (h : ∀ x, x ∈ l.toList → (f x).run P w = .ok (g x) w) : (l.mapM f).run P w = .ok (l.map g) w := by
  have e : l.mapM f = List.toArray <$> l.toList.mapM f := Array.mapM_eq_mapM_toList
  rw [e, Sem.run_map, run_mapM f g w l.toList h, Result.andThen_ok, ← Array.toList_map, Array.toArray_toList]
theorem one_cell : ∀ v : Value, Value.one v = v.oneCell'
  | .agg _ | .tuple _ => rfl
  | .bool _ | .int _ _ | .float _ _ | .complex _ _ _ | .string _ | .pointer _ | .slice _ _ _ | .map _ | .chan _ | .func _ _ _ | .nilFunc | .iface _ _ | .nilIface => rfl
theorem dr_one {N : Nat} {d : D} {v : Value} (h : DR w A β N d v) (h1 : d.one = true) : v.oneCell' = true := by
  cases h with
  | cl d x h =>
    cases h with
    | v x => rw [← one_cell]; exact h1
    | nl | sl0 | sl | ip | clo => rfl
    | ag | tu | junk => simp [D.one] at h1
  | ref | refz | ptr | mp | clo => rfl
  | ag | tu => simp [D.one] at h1
theorem cells_one {v : Value} (h : v.oneCell' = true) : v.cells = #[v] := by
  cases v <;> first | rfl | (simp [Value.oneCell'] at h)
theorem dr_cells {N : Nat} {d : D} {v : Value} (h : DR w A β N d v) (h1 : d.cells.all D.one = true) : v.cells.size = d.cells.length ∧ ∀ i, i < d.cells.length → DR w A β N (d.cells.getD i .junk) (v.cells.getD i undef) ∧ (v.cells.getD i undef).oneCell' = true := by
  by_cases ha : ∃ ds, d = .ag ds
  · obtain ⟨ds, rfl⟩ := ha
    obtain ⟨cs, rfl, hn, hr⟩ := dr_ag h
    refine ⟨hn, fun i hi => ⟨hr i hi, dr_one (hr i hi) ?_⟩⟩
    simp only [D.cells] at h1 hi ⊢
    have := List.all_eq_true.1 h1 (ds.getD i .junk) (by simp [List.getD, hi])
    exact this
  · have e : d.cells = [d] := by cases d <;> first | rfl | exact absurd ⟨_, rfl⟩ ha
    rw [e] at h1 ⊢
    have h2 : d.one = true := by simpa using h1
    have h3 := dr_one h h2
    rw [cells_one h3]
    refine ⟨rfl, fun i hi => ?_⟩
    have : i = 0 := by simpa using hi
    subst this
    exact ⟨by simpa using h, by simpa using h3⟩
theorem foldl_size (l : List Value) : ∀ (off i0 : Nat) (cs : Array Value), ((l.zipIdx i0).foldl (fun cs (x : Value × Nat) => cs.setIfInBounds (off + x.2) x.1) cs).size = cs.size := by
  induction l with
  | nil => intros; rfl
  | cons x l ih => intro off i0 cs; simp only [List.zipIdx_cons, List.foldl_cons]; rw [ih]; simp
theorem foldl_get (l : List Value) : ∀ (off i0 : Nat) (cs : Array Value) (i : Nat), off + i0 + l.length ≤ cs.size →
    ((l.zipIdx i0).foldl (fun cs (x : Value × Nat) => cs.setIfInBounds (off + x.2) x.1) cs).getD i undef = if off + i0 ≤ i ∧ i < off + i0 + l.length then l.getD (i - (off + i0)) undef else cs.getD i undef := by
  induction l with
  | nil => intro off i0 cs i _; simp; intro h1 h2; omega
  | cons x l ih =>
    intro off i0 cs i hl
    simp only [List.length_cons] at hl
    simp only [List.zipIdx_cons, List.foldl_cons]
    rw [ih off (i0 + 1) _ i (by simp; omega)]
    by_cases h : i = off + i0
    · subst h
      have hlt : off + i0 < cs.size := by omega
      rw [if_neg (by omega), if_pos (by simp)]
      simp [hlt]
    · have e1 : (cs.setIfInBounds (off + i0) x).getD i undef = cs.getD i undef := by
        simp only [Array.getD_eq_getD_getElem?, Array.getElem?_setIfInBounds]
        rw [if_neg (fun e => h e.symm)]
      rw [e1]
      by_cases h2 : off + i0 ≤ i ∧ i < off + i0 + (l.length + 1)
      · rw [if_pos (by omega), if_pos (by simpa using h2)]
        obtain ⟨m, hm⟩ : ∃ m, i - (off + i0) = m + 1 := ⟨i - (off + i0) - 1, by omega⟩
        rw [hm, show i - (off + (i0 + 1)) = m by omega]; simp
      · rw [if_neg (by omega), if_neg (by simpa using h2)]
theorem splice_len {cells ds : List D} {off : Nat} (h : off + ds.length ≤ cells.length) : (splice cells off ds).length = cells.length := by
  simp only [splice, List.length_append, List.length_take, List.length_drop]; omega
theorem splice_get {cells ds : List D} {off i : Nat} (h : off + ds.length ≤ cells.length) : (splice cells off ds).getD i .junk = if off ≤ i ∧ i < off + ds.length then ds.getD (i - off) .junk else cells.getD i .junk := by
  have htl : (cells.take off).length = off := by rw [List.length_take]; omega
  simp only [splice, List.getD_eq_getElem?_getD]
  by_cases h1 : i < off
  · rw [if_neg (by omega), List.getElem?_append_left (by simp only [List.length_append, htl]; omega), List.getElem?_append_left (by omega), List.getElem?_take, if_pos h1]
  · by_cases h2 : i < off + ds.length
    · rw [if_pos ⟨by omega, h2⟩, List.getElem?_append_left (by simp only [List.length_append, htl]; omega), List.getElem?_append_right (by omega), htl]
    · rw [if_neg (by omega), List.getElem?_append_right (by simp only [List.length_append, htl]; omega), List.getElem?_drop]
      congr 2; simp only [List.length_append, htl]; omega
theorem fill_sound (place : Nat → Option (Nat × Nat)) (g : GR G s a w A β γ) : ∀ (parts : List (Nat × Operand)) (ps : List (Nat × Nat × O)) (zero : List D) (cells : Array Value),
    (parts.length = ps.length ∧ ∀ i, i < parts.length → ∃ off n y, ps[i]? = some (off, n, y) ∧ place (parts.getD i (0, default)).1 = some (off, n) ∧ cO (parts.getD i (0, default)).2 = some y) →
    cells.size = zero.length → (∀ i, i < zero.length → DR w A β s.N (zero.getD i .junk) (cells.getD i undef)) → kBld s k ps zero →
    ∃ ds cs, k (.ag ds) ∧ Instr.fill place cells (parts.map fun p => (p.1, a.eval p.2)) = some cs ∧ cs.size = ds.length ∧ ∀ i, i < ds.length → DR w A β s.N (ds.getD i .junk) (cs.getD i undef)
  | [], ps, zero, cells, hp, hs, hr, h => by
    obtain ⟨hl, _⟩ := hp
    have : ps = [] := List.eq_nil_of_length_eq_zero (by simpa using hl.symm)
    subst this
    exact ⟨zero, cells, h, rfl, hs, hr⟩
  | (i, x) :: parts, [], zero, cells, hp, hs, hr, h => by simp at hp
  | (i, x) :: parts, (off, n, y) :: ps, zero, cells, hp, hs, hr, h => by
    obtain ⟨hl, hi⟩ := hp
    obtain ⟨off', n', y', e1, e2, e3⟩ := hi 0 (by simp)
    simp only [List.getElem?_cons_zero, Option.some.injEq, Prod.mk.injEq] at e1
    obtain ⟨rfl, rfl, rfl⟩ := e1
    simp only [List.getD_cons_zero] at e2 e3
    obtain ⟨⟨h1, h2, h3⟩, h4⟩ := h
    have ev := g.evalO e3
    obtain ⟨c1, c2⟩ := dr_cells ev h3
    have hsz : (a.eval x).cells.size = n := by rw [c1, h1]
    have hfit : off + (s.g y).cells.length ≤ zero.length := by omega
    have hstep : ((a.eval x).cells.zipIdx.foldl (fun cs (c, j) => cs.setIfInBounds (off + j) c) cells) = (((a.eval x).cells.toList.zipIdx 0).foldl (fun cs (x : Value × Nat) => cs.setIfInBounds (off + x.2) x.1) cells) := by
      rw [← Array.foldl_toList, Array.toList_zipIdx]
    obtain ⟨ds, cs, r1, r2, r3, r4⟩ := fill_sound place g parts ps (splice zero off (s.g y).cells) ((a.eval x).cells.zipIdx.foldl (fun cs (c, j) => cs.setIfInBounds (off + j) c) cells)
      ⟨by simpa using hl, fun j hj => by
        obtain ⟨o2, n2, y2, q1, q2, q3⟩ := hi (j + 1) (by simpa using hj)
        exact ⟨o2, n2, y2, by simpa using q1, by simpa using q2, by simpa using q3⟩⟩
      (by rw [hstep, foldl_size, splice_len hfit, hs])
      (fun j hj => by
        rw [splice_len hfit] at hj
        rw [hstep, foldl_get _ _ _ _ _ (by simp [c1]; omega), splice_get hfit]
        simp only [Nat.add_zero, Array.length_toList, c1]
        by_cases hc : off ≤ j ∧ j < off + (s.g y).cells.length
        · rw [if_pos hc, if_pos hc]
          have := (c2 (j - off) (by omega)).1
          have e : (a.eval x).cells.toList.getD (j - off) undef = (a.eval x).cells.getD (j - off) undef := by simp [List.getD, Array.getD_eq_getD_getElem?]
          rw [e]; exact this
        · rw [if_neg hc, if_neg hc]; exact hr j hj)
      h4
    refine ⟨ds, cs, r1, ?_, r3, r4⟩
    simp only [List.map_cons, Instr.fill, e2, hsz]
    rw [if_neg (by simp; omega)]
    exact r2
theorem mapM_zCell : ∀ (l : List Value) (z : List D), l.mapM zCell = some z → l.length = z.length ∧ ∀ i, i < z.length → CR w A (z.getD i .junk) (l.getD i undef) ∧ (z.getD i .junk).one = true ∧ (z.getD i .junk).cl = true
  | [], z, h => by simp at h; subst h; exact ⟨rfl, fun i hi => by simp at hi⟩
  | x :: l, z, h => by
    simp only [List.mapM_cons, Option.bind_eq_bind, Option.pure_def, Option.bind_eq_some_iff] at h
    obtain ⟨y, hy, z', hz, h⟩ := h
    cases h
    obtain ⟨i1, i2⟩ := mapM_zCell l z' hz
    refine ⟨by simp [i1], fun i hi => ?_⟩
    cases i with
    | zero =>
      simp only [List.getD_cons_zero]
      unfold zCell at hy
      split at hy
      · cases hy; exact ⟨.nl, rfl, by simp [D.cl, D.alls, clL]⟩
      · cases hy
      · cases hy
      · cases hy
      · next h1 h2 h3 h4 =>
        cases hy
        refine ⟨.v x, ?_, by simp [D.cl, D.alls, clL]⟩
        cases x <;> first | rfl | exact absurd rfl (h3 _) | exact absurd rfl (h4 _)
    | succ i => simpa using i2 i (by simpa using hi)
theorem zOf_spec {t : TypeId} {z : List D} (h : zOf P t = some z) : ∃ v : Value, (∀ w, (zeroValue t).run P w = .ok v w) ∧ v.cells.size = z.length ∧
    (∀ w A i, i < z.length → CR w A (z.getD i .junk) (v.cells.getD i undef) ∧ (z.getD i .junk).one = true ∧ (z.getD i .junk).cl = true) := by
  unfold zOf at h
  split at h
  · next v hv =>
    rw [Option.bind_eq_some_iff] at hv
    obtain ⟨ti, hti, hz⟩ := hv
    refine ⟨v, fun w => by simp [zeroValue, typeInfo, hti, hz], ?_, fun w A i hi => ?_⟩
    · have := (mapM_zCell (w := default) (A := fun _ => False) _ _ h).1; simpa using this
    · have := (mapM_zCell (w := w) (A := A) _ _ h).2 i hi
      simpa [List.getD, Array.getD_eq_getD_getElem?] using this
  · cases h
theorem pu_bld {t : TypeId} {parts : Array (Nat × Operand)} {fs : Array Field} {zero : List D} {ps : List (Nat × Nat × O)} (ho : o.op = .build t parts) (ht : P.underlying t = some (.struct fs)) (hz : zOf P t = some zero)
    (hps : (parts.toList.mapM fun p => do let f ← fs[p.1]?; let z ← szOf P f.type; pure (f.offset, z, ← cO p.2)) = some ps) (hall : fs.toList.all (fun f => (szOf P f.type).isSome) = true)
    (h : kBld s k ps zero) (g : GR G s a w A β γ) : ∃ d v, k d ∧ DR w A β s.N d v ∧ Yields P a w o v := by
  obtain ⟨v, hv, hn, hc⟩ := zOf_spec hz
  have key : ∀ (l : List (Nat × Operand)) (ps : List (Nat × Nat × O)), (l.mapM fun p => do let f ← fs[p.1]?; let z ← szOf P f.type; pure (f.offset, z, ← cO p.2)) = some ps →
      l.length = ps.length ∧ ∀ i, i < l.length → ∃ off n y, ps[i]? = some (off, n, y) ∧ ((fs.map fun f => (f.offset, (szOf P f.type).getD 0))[(l.getD i (0, default)).1]?) = some (off, n) ∧ cO (l.getD i (0, default)).2 = some y := by
    intro l
    induction l with
    | nil => intro ps h; simp at h; subst h; exact ⟨rfl, fun i hi => by simp at hi⟩
    | cons p l ih =>
      intro ps h
      simp only [List.mapM_cons, Option.bind_eq_bind, Option.pure_def, Option.bind_eq_some_iff] at h
      obtain ⟨y, ⟨f, hf, z, hz, y', hy, e⟩, ps', hps', h⟩ := h
      cases h; cases e
      obtain ⟨i1, i2⟩ := ih ps' hps'
      refine ⟨by simp [i1], fun i hi => ?_⟩
      cases i with
      | zero => exact ⟨f.offset, z, y', rfl, by simp [hf, hz], by simpa using hy⟩
      | succ i => simpa using i2 i (by simpa using hi)
  obtain ⟨ds, cs, r1, r2, r3, r4⟩ := fill_sound (fun i => (fs.map fun f => (f.offset, (szOf P f.type).getD 0))[i]?) g parts.toList ps zero v.cells (key _ _ hps) hn (fun i hi => .cl _ _ (hc w A i hi).1) h
  refine ⟨_, _, r1, .ag ds cs r3 r4, fun w' _ => ?_⟩
  have hm := run_amapM (P := P) (fun f : Field => do pure (f.offset, ← sizeOf f.type)) (fun f => (f.offset, (szOf P f.type).getD 0)) w' fs (fun f hf => by
    have := List.all_eq_true.1 hall f hf
    obtain ⟨n, hn⟩ := Option.isSome_iff_exists.1 this
    simp [szOf_spec hn, hn])
  have e : (parts.map fun x => (x.1, a.eval x.2)).toList = parts.toList.map fun p => (p.1, a.eval p.2) := by simp
  simp only [execOp, ho, Instr.build, Sem.run_bind, hv, Result.andThen_ok, und_run ht, hm, e, r2, Sem.run_pure]
end
end Go.Dm
