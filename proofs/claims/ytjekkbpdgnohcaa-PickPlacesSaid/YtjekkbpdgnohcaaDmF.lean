/-
  A logic for Go functions over plain data, part F: the instructions that make or write memory.
-/
import Derived.Test.YtjekkbpdgnohcaaDmE
set_option linter.unusedSimpArgs false
set_option linter.unusedVariables false
namespace Go.Dm
open Go.RowKit
section
variable {P : Program} {G : Gh} {s : S} {a : Act} {w : World} {A : Nat → Prop} {β : Nat → Option Nat} {γ : Nat → Option (Nat × List Nat)} {o : Oper}
theorem heap_new (w : World) (ob : Obj) : (w.alloc ob).heap[w.heap.size]? = some ob := Array.getElem?_push_size
theorem GR.newO (g : GR G s a w A β γ) {w' : World} (hw : Below w.heap.size w w') {x : Option Nat} {ob : Ob} (hO : ∀ β' γ', β' s.N = x → (∀ τ, τ < s.N → β' τ = β τ) → OR w' A β' γ' (s.N + 1) ob s.N)
    (hx : ∀ b, x = some b → w.heap.size ≤ b ∧ b < w'.heap.size) :
    ∃ β' γ', GR G ((s.setM s.N ob).setN (s.N + 1)) a w' A β' γ' ∧ β' s.N = x ∧ ∀ τ, τ < s.N → β' τ = β τ := by
  have g' := g.world hw
  let β' : Nat → Option Nat := fun τ => if τ = s.N then x else β τ
  let γ' : Nat → Option (Nat × List Nat) := fun b => if x = some b then some (s.N, []) else match γ b with
    | some (σ, π) => if σ < s.N then some (σ, π) else none
    | none => none
  have h1 : β' s.N = x := by simp [β']
  have h2 : ∀ τ, τ < s.N → β' τ = β τ := fun τ h => by simp [β', Nat.ne_of_lt h]
  have hM : ∀ τ, ((s.setM s.N ob).setN (s.N + 1)).M τ = if τ = s.N then some ob else s.M τ := fun _ => rfl
  have live : ∀ τ, τ < s.N → ((s.setM s.N ob).setN (s.N + 1)).M τ = s.M τ := fun τ h => by rw [hM, if_neg (Nat.ne_of_lt h)]
  have hγ : ∀ b τ π, γ b = some (τ, π) → τ < s.N → s.M τ ≠ none → γ' b = some (τ, π) := by
    intro b τ π e h3 h4
    have := (g.hr.own b τ π e h3 h4).1
    have hne : x ≠ some b := fun he => by have := (hx b he).1; omega
    simp only [γ', if_neg hne, e, if_pos h3]
  have invγ : ∀ b τ π, γ' b = some (τ, π) → (τ = s.N ∧ x = some b) ∨ (τ < s.N ∧ γ b = some (τ, π)) := by
    intro b τ π h
    simp only [γ'] at h
    split at h
    · next e => simp only [Option.some.injEq, Prod.mk.injEq] at h; exact .inl ⟨h.1.symm, e⟩
    · split at h
      · next σ π' he =>
        split at h
        · next hlt => simp only [Option.some.injEq, Prod.mk.injEq] at h; obtain ⟨rfl, rfl⟩ := h; exact .inr ⟨hlt, he⟩
        · cases h
      · cases h
  refine ⟨β', γ', ⟨g'.size, g'.defers, ⟨g'.hr.below, g'.hr.sub, g'.hr.up, g'.hr.low, fun τ ob' hτ hm => ?_, fun b τ π e hτ hm => ?_, fun τ b hτ hm e => ?_, Nat.le_trans g.hr.ge (Nat.le_succ _), g.hr.flt, fun τ hF => ?_⟩, fun t => ?_, g'.keep⟩, h1, h2⟩
  · by_cases hN : τ = s.N
    · subst hN
      have : ob' = ob := by
        rw [hM, if_pos rfl] at hm; exact (Option.some.inj hm).symm
      subst this
      exact hO β' γ' h1 h2
    · have hlt : τ < s.N := by
        have : τ < s.N + 1 := hτ
        omega
      rw [live τ hlt] at hm
      exact (g'.hr.objs τ ob' hlt hm).mono hlt (fun _ _ => rfl) (fun _ h => h) (Shp.refl _) (Nat.le_succ _) h2 (fun b π _ e => ⟨rfl, hγ b τ π e hlt (by rw [hm]; simp)⟩) (fun _ _ => rfl)
  · rcases invγ b τ π e with ⟨rfl, he⟩ | ⟨hlt, he⟩
    · obtain ⟨q1, q2⟩ := hx b he
      exact ⟨q2, fun hA => absurd (g.hr.low b hA) (by omega), .inl (Nat.le_trans g.hr.below.size q1), (hO β' γ' h1 h2).noth (h1.trans he)⟩
    · rw [live τ hlt] at hm
      exact g'.hr.own b τ π he hlt hm
  · by_cases hN : τ = s.N
    · subst hN; rw [h1] at e
      simp only [γ', if_pos e]
    · have hlt : τ < s.N := by
        have : τ < s.N + 1 := hτ
        omega
      rw [live τ hlt] at hm; rw [h2 τ hlt] at e
      exact hγ b τ [] (g.hr.root τ b hlt hm e) hlt hm
  · have hlt := Nat.lt_of_lt_of_le (g.hr.flt τ hF) g.hr.ge
    exact ⟨by rw [h2 τ hlt]; exact (g.hr.fixd τ hF).1, fun ob' hm => (g.hr.fixd τ hF).2 ob' (by rw [← live τ hlt]; exact hm)⟩
  · exact (g'.slots t).mono (fun _ _ => rfl) (fun _ h => h) (Shp.refl _) (Nat.le_succ _) h2
theorem cl_no {d : D} (h : d.cl = true) : d.isOwn = false := by
  cases d <;> first | rfl | (simp [D.cl, D.alls, clL] at h)
theorem dr_no {N : Nat} {d : D} {v : Value} (h : DR w A β N d v) : d.isOwn = false := by
  cases h with
  | cl d x h => cases h <;> rfl
  | _ => rfl
theorem newt_rows (g : GR G s a w A β γ) {d : Option Nat} (hd : ∀ t, d = some t → t < G.nt ∧ ∀ y, ¬ G.T t y) {w1 : World} (h1 : Below w.heap.size w w1) {arr : Array Value} {T : TypeId} {ob : Ob} {x : Nat → D} {v : Value} (hk : ob.kd.isMap = false)
    (hsz : ob.es.length * ob.sz ≤ arr.size) (hln : ∀ i, i < ob.es.length → (ob.es.getD i []).length = ob.sz) (hr : ∀ i j, i < ob.es.length → j < ob.sz → DR w1 A β s.N ((ob.es.getD i []).getD j .junk) (arr.getD (i * ob.sz + j) undef) ∧
      (ob.flat = true → CR w1 A ((ob.es.getD i []).getD j .junk) (arr.getD (i * ob.sz + j) undef)) ∧ (arr.getD (i * ob.sz + j) undef).oneCell' = true)
    (hx : ∀ β', β' s.N = some w1.heap.size → DR (w1.alloc (.cells arr T)) A β' (s.N + 1) (x s.N) v) : SR G (s.newt d ob x) (a.put d v) (w1.alloc (.cells arr T)) := by
  have hal : Below w1.heap.size w1 (w1.alloc (.cells arr T)) := (Below.refl _ _).alloc (Nat.le_refl _) _
  have hb : Below w.heap.size w (w1.alloc (.cells arr T)) := h1.trans (hal.mono h1.size)
  have hA1 : ∀ b, A b → (w1.alloc (.cells arr T)).heap[b]? = w1.heap[b]? := fun b hb => hal.block b (Nat.lt_of_lt_of_le (g.hr.low b hb) h1.size)
  have hsame : Same w1 (w1.alloc (.cells arr T)) := fun b hb => hal.block b hb
  obtain ⟨β', γ', g2, e1, e2⟩ := g.newO hb (x := some w1.heap.size) (ob := ob) (fun β' γ' e1 e2 => ⟨hln, fun _ i j hi hj => dr_no (hr i j hi hj).1, .inr ⟨w1.heap.size, _, fun i j => arr.getD (i * ob.sz + j) undef, e1, heap_new _ _, by
        cases hkd : ob.kd with
        | map k ka va => rw [hkd] at hk; cases hk
        | arr => exact ⟨arr, T, rfl, hsz, fun _ _ _ _ => rfl⟩
        | fix => exact ⟨arr, T, rfl, hsz, fun _ _ _ _ => rfl⟩, fun i j hi hj =>
      ⟨fun _ => (hr i j hi hj).1.mono hA1 (fun _ h => h) hsame.shp (Nat.le_succ _) e2, (fun hf => by
        rcases hf with hf | hf
        · exact .cr _ _ _ (((hr i j hi hj).2.1 hf).mono hA1 (fun _ h => h))
        · rw [dr_no (hr i j hi hj).1] at hf; cases hf), (hr i j hi hj).2.2⟩⟩⟩)
    (fun b e => by cases e; exact ⟨h1.size, by show w1.heap.size < (w1.heap.push _).size; rw [Array.size_push]; omega⟩)
  exact ⟨A, β', γ', g2.put (hx β' e1) hd⟩
theorem newt_nil (g : GR G s a w A β γ) {d : Option Nat} (hd : ∀ t, d = some t → t < G.nt ∧ ∀ y, ¬ G.T t y) {sz : Nat} {fl ow : Bool} : SR G (s.newt d ⟨sz, [], fl, ow, .arr⟩ fun τ => .ref τ sz 0 0) (a.put d (.slice none 0 0)) w := by
  obtain ⟨β', γ', g2, e1, e2⟩ := g.newO (Below.refl _ _) (x := none) (ob := ⟨sz, [], fl, ow, .arr⟩) (fun β' γ' e1 _ => ⟨fun i hi => by simp at hi, fun _ i j hi => by simp at hi, .inl ⟨e1, rfl, rfl⟩⟩) (fun b e => by cases e)
  exact ⟨A, β', γ', g2.put (.refz _ _ _ _ (Nat.lt_succ_self _)) hd⟩
def Does (gr : Bool) (P : Program) (G : Gh) (a : Act) (w : World) (o : Oper) (K : S → Prop) : Prop :=
  ∀ N : Value → World → Prop, (∀ s' u w', K s' → SR G s' (a.put o.dst u) w' → (gr = true → Same w w') → N u w') → Eff P o a w N
theorem Does.valueG {gr : Bool} {K : S → Prop} {v : Value} {w' : World} {s' : S} (hs : gr = true → Same w w') (hr : (execOp a.eval o).run P w = .ok (.value v) w') (hk : K s') (h : SR G s' (a.put o.dst v) w') : Does gr P G a w o K := by
  intro N hn
  unfold Eff
  rw [hr]
  exact hn _ _ _ hk h hs
theorem Does.value {K : S → Prop} {v : Value} {w' : World} {s' : S} (hr : (execOp a.eval o).run P w = .ok (.value v) w') (hk : K s') (h : SR G s' (a.put o.dst v) w') : Does false P G a w o K := Does.valueG (fun h => by cases h) hr hk h
theorem Does.skip {K : S → Prop} {w' : World} {s' : S} (hr : (execOp a.eval o).run P w = .ok .skip w') (hk : K s') (h : SR G s' (a.put o.dst undef) w') : Does false P G a w o K := by
  intro N hn
  unfold Eff
  rw [hr]
  exact hn _ _ _ hk h (fun h => by cases h)
theorem same_alloc (w : World) (ob : Obj) : Same w (w.alloc ob) := fun b hb => Below.heap_alloc w ob b hb
theorem ef_nil {gr : Bool} {sz : Nat} {K : S → Prop} (ho : o.op = .assign (.const (.slice none 0 0))) (hd : ∀ t, o.dst = some t → t < G.nt ∧ ∀ y, ¬ G.T t y) (h : K (s.newt o.dst ⟨sz, [], true, false, .arr⟩ fun τ => .ref τ sz 0 0)) (g : GR G s a w A β γ) : Does gr P G a w o K :=
  Does.valueG (fun _ => Same.refl w) (by simp [execOp, ho, Act.eval]) h (newt_nil g hd)
theorem ef_new {gr : Bool} {e : TypeId} {z : List D} {K : S → Prop} (ho : o.op = .alloc e) (hz : zOf P e = some z) (hd : ∀ t, o.dst = some t → t < G.nt ∧ ∀ y, ¬ G.T t y)
    (h : K (s.newt o.dst ⟨z.length, [z], true, false, .fix⟩ fun τ => .ptr τ z.length 0 0)) (g : GR G s a w A β γ) : Does gr P G a w o K := by
  obtain ⟨v, hv, hn, hc⟩ := zOf_spec hz
  refine Does.valueG (fun _ => same_alloc w _) (v := .pointer (some ⟨w.heap.size, 0, none⟩)) (w' := w.alloc (.cells v.cells e)) (by simp [execOp, ho, Instr.alloc, hv, newVar, newRow]) h ?_
  refine newt_rows g hd (Below.refl _ _) rfl (by simp [hn]) (fun i hi => ?_) (fun i j hi hj => ?_) (fun β' eb => ?_)
  · have : i = 0 := by simpa using hi
    subst this; rfl
  · have : i = 0 := by simpa using hi
    subst this
    have := (hc w A j hj).1
    simp only [Nat.zero_mul, Nat.zero_add, List.getD_cons_zero]
    exact ⟨.cl _ _ this, fun _ => this, dr_one (β := β) (N := 0) (.cl _ _ this) (hc w A j hj).2.1⟩
  · have := DR.ptr (w := w.alloc (.cells v.cells e)) (A := A) s.N z.length 0 0 w.heap.size (Nat.lt_succ_self _) eb
    simpa using this
theorem dr_cl {N : Nat} {d : D} {v : Value} (h : DR w A β N d v) (hc : d.cl = true) : CR w A d v := h.toC hc
theorem ef_box {gr : Bool} {e : TypeId} {n : Nat} {x : Operand} {y : O} {K : S → Prop} (ho : o.op = .box e x) (hx : cO x = some y) (hd : ∀ t, o.dst = some t → t < G.nt ∧ ∀ y, ¬ G.T t y)
    (h : kRows s o.dst n false K [(s.g y).cells]) (g : GR G s a w A β γ) : Does gr P G a w o K := by
  obtain ⟨h1, hk⟩ := h
  simp only [List.all_cons, List.all_nil, Bool.and_true, Bool.and_eq_true, beq_iff_eq] at h1
  obtain ⟨hl, ha⟩ := h1
  have ev := g.evalO hx
  obtain ⟨c1, c2⟩ := dr_cells ev ha
  simp only [Bool.false_eq_true, if_false] at hk
  refine Does.valueG (fun _ => same_alloc w _) (v := .pointer (some ⟨w.heap.size, 0, none⟩)) (w' := w.alloc (.cells (a.eval x).cells e)) (by simp [execOp, ho, Instr.box, newVar, newRow]) hk ?_
  refine newt_rows g hd (Below.refl _ _) rfl (by simp [c1, hl]) (fun i hi => ?_) (fun i j hi hj => ?_) (fun β' eb => ?_)
  · have : i = 0 := by simpa using hi
    subst this; simpa using hl
  · have : i = 0 := by simpa using hi
    subst this
    simp only [Nat.zero_mul, Nat.zero_add, List.getD_cons_zero]
    have hj' : j < (s.g y).cells.length := by rw [hl]; exact hj
    refine ⟨(c2 j hj').1, fun hf => dr_cl (c2 j hj').1 ?_, (c2 j hj').2⟩
    simp only [List.all_cons, List.all_nil, Bool.and_true] at hf
    exact List.all_eq_true.1 hf _ (by simp [List.getD, hj'])
  · have := DR.ptr (w := w.alloc (.cells (a.eval x).cells e)) (A := A) s.N n 0 0 w.heap.size (Nat.lt_succ_self _) eb
    simpa using this
theorem byOf_spec {t : TypeId} {n : Nat} (h : byOf P t = some n) : ∃ i, P.info? t = some i ∧ i.bytes = n := by
  unfold byOf at h
  cases hi : P.info? t with
  | none => rw [hi] at h; simp at h
  | some i => rw [hi] at h; simp only [Option.map_some, Option.some.injEq] at h; exact ⟨i, rfl, h⟩
theorem wrap_small {z : Int} (h0 : 0 ≤ z) (h1 : z ≤ 140737488355328) : IntKind.i64.wrap z = z := IntWalk.i64_in z ⟨by omega, by omega⟩
theorem ef_mk {gr : Bool} {t e : TypeId} {l : Operand} {y : O} {sz by_ : Nat} {zero : List D} {K : S → Prop} (ho : o.op = .makeSlice t l l) (ht : isSlice P t = some e) (hs : szOf P e = some sz) (hz : zOf P e = some zero) (hb : byOf P e = some by_)
    (hzl : zero.length = sz) (hs0 : 0 < sz) (hb0 : 0 < by_) (hl : cO l = some y) (hd : ∀ t, o.dst = some t → t < G.nt ∧ ∀ y, ¬ G.T t y) (h : kMk s o.dst sz zero by_ K (s.g y)) (g : GR G s a w A β γ) : Does gr P G a w o K := by
  have ev := g.evalO hl
  unfold kMk at h
  split at h
  · next z hzz =>
    obtain ⟨⟨h0, h1⟩, hk⟩ := h
    rw [hzz] at ev
    have e1 := dr_v ev
    obtain ⟨v, hv, hn, hc⟩ := zOf_spec hz
    obtain ⟨ti, hti, hbt⟩ := byOf_spec hb
    have hz47 : z ≤ 140737488355328 := by
      have : z * 1 ≤ z * by_ := Int.mul_le_mul_of_nonneg_left (by omega) h0
      omega
    have hw := wrap_small h0 hz47
    have hbz : (by_ : Int) * z ≤ 281474976710656 := by rw [Int.mul_comm]; omega
    have hu := isSlice_spec ht
    have hvl : v.cells.size = sz := by rw [hn, hzl]
    let arr : Array Value := (Array.range (z.toNat * sz)).map fun i => v.cells[i % v.cells.size]!
    have hrun : (execOp a.eval o).run P w = .ok (.value (.slice (some ⟨w.heap.size, 0, none⟩) z.toNat z.toNat)) (w.alloc (.cells arr e)) := by
      by_cases hz0 : z.toNat * sz = 0
      · have : arr = #[] := by simp [arr, hz0]
        rw [this]
        have hz1 : z.toNat = 0 := by
          rcases Nat.mul_eq_zero.1 hz0 with h | h
          · exact h
          · omega
        have hz2 : z = 0 := by omega
        subst hz2
        simp [execOp, ho, e1, Instr.makeSlice, und_run hu, asInt, asIntOf, typeInfo, hti, szOf_spec hs, newRow, IntKind.wrap, IntKind.bits, IntKind.signed]
        congr 2
        exact Array.eq_empty_of_size_eq_zero (by simp)
      · simp [execOp, ho, e1, Instr.makeSlice, und_run hu, asInt, asIntOf, typeInfo, hti, hbt, hw, szOf_spec hs, newRow, hv, hz0, Int.not_lt.2 h0, Int.not_lt.2 hbz, arr]
    refine Does.valueG (fun _ => same_alloc w _) hrun hk (newt_rows g hd (Below.refl _ _) rfl (by simp [arr]) (fun i hi => ?_) (fun i j hi hj => ?_) (fun β' eb => ?_))
    · simp only [List.length_replicate] at hi
      simp [List.getD, hi, hzl]
    · simp only [List.length_replicate] at hi
      have hlt := in_row hi hj
      have e2 : (List.replicate z.toNat zero).getD i [] = zero := by simp [List.getD, hi]
      have e3 : arr.getD (i * sz + j) undef = v.cells.getD j undef := by
        have hm : (i * sz + j) % sz = j := by rw [Nat.mul_comm, Nat.mul_add_mod]; exact Nat.mod_eq_of_lt hj
        have hj' : j < v.cells.size := by rw [hvl]; exact hj
        simp only [arr, Array.getD_eq_getD_getElem?, Array.getElem?_map, Array.getElem?_range, hlt, if_true, Option.map_some, Option.getD_some, hvl, hm]
        simp [hj']
      simp only [e2, e3]
      have := (hc w A j (by rw [hzl]; exact hj)).1
      exact ⟨.cl _ _ this, fun _ => this, dr_one (β := β) (N := 0) (.cl _ _ this) (hc w A j (by rw [hzl]; exact hj)).2.1⟩
    · have := DR.ref (w := w.alloc (.cells arr e)) (A := A) s.N sz 0 z.toNat z.toNat w.heap.size arr _ (Nat.lt_succ_self _) eb (Nat.le_refl _) (heap_new _ _) (by simp [arr])
      simpa using this
  · exact h.elim
end
end Go.Dm
