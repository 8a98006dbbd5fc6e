/-
  A logic for Go functions over plain data, part J: calls; all operations.
-/
import Derived.Test.YtagllokfkliaoaaDmI
namespace Go.Dm
open Go.RowKit
section
variable {P : Program} {G : Gh} {s : S} {a : Act} {w : World} {A : Nat → Prop} {β : Nat → Option Nat} {o : Oper}

/-- The blocks of the owned objects, too. -/
def own (s : S) (A : Nat → Prop) (β : Nat → Option Nat) : Nat → Prop := fun b => A b ∨ ∃ τ, τ < s.N ∧ s.M τ ≠ none ∧ β τ = some b

theorem ref_cr (g : GR G s a w A β) {τ sz off n : Nat} {v : Value} (h : DR w A β s.N (.ref τ sz off n) v) : CR w (own s A β) (viewO (s.M τ) sz off n) v := by
  cases hM : s.M τ with
  | none => exact .junk _
  | some ob =>
    simp only [viewO]
    split
    · next hc =>
      obtain ⟨hf, rfl, hle⟩ := hc
      have hyl : ((ob.es.drop off).take n).length = n := by rw [List.length_take, List.length_drop]; omega
      cases h with
      | cl d x h' => cases h'
      | ref τ sz off n c b arr T hN hb hc hh hr =>
        rcases g.objs τ ob hN hM with ⟨k1, _⟩ | ⟨b', arr', T', hb', hh', hl, he, hro⟩
        · rw [k1] at hb; cases hb
        · rw [hb] at hb'; cases hb'
          rw [hh] at hh'; cases hh'
          have hmul : (off + n) * ob.sz ≤ ob.es.length * ob.sz := Nat.mul_le_mul_right _ hle
          have hgetys : ∀ i, i < n → ((ob.es.drop off).take n).getD i [] = ob.es.getD (off + i) [] := by
            intro i hi
            simp only [List.getD_eq_getElem?_getD, List.getElem?_take, hi, if_true, List.getElem?_drop]
          have hsub : ∀ b, A b → own s A β b := fun _ h => .inl h
          refine .sl ob.sz _ b (off * ob.sz) n c (fun i j => arr.getD ((off + i) * ob.sz + j) undef) (.inr ⟨τ, hN, by rw [hM]; simp, hb⟩) hyl hc (fun i hi => ?_) (fun i j hi hj => ?_) (fun i j hi hj => ?_)
          · rw [hyl] at hi; rw [hgetys i hi]; exact he _ (by omega)
          · rw [hyl] at hi
            have e1 := in_row (n := off + n) (sz := ob.sz) (i := off + i) (by omega) hj
            refine ⟨?_, (hro (off + i) j (by omega) hj).2.2⟩
            have e2 : off * ob.sz + (i * ob.sz + j) = (off + i) * ob.sz + j := by rw [Nat.add_mul]; omega
            rw [e2]
            have hlt : (off + i) * ob.sz + j < arr.size := by omega
            simp only [World.cell?, hh]
            simp [hlt]
          · rw [hyl] at hi; rw [hgetys i hi]
            exact ((hro (off + i) j (by omega) hj).2.1 hf).mono (fun _ _ => rfl) hsub
      | refz τ sz off b hN =>
        have : (ob.es.drop off).take 0 = [] := by simp
        rw [this]; exact .sl0 _ _ _
    · exact .junk _
theorem viewA_cr (g : GR G s a w A β) {d : D} {v : Value} (h : DR w A β s.N d v) : CR w (own s A β) (s.viewA d) v := by
  have hsub : ∀ b, A b → own s A β b := fun _ h => .inl h
  cases d with
  | ref τ sz off n => exact ref_cr g h
  | v | nl | sl | ip => exact (h.toC rfl).mono (fun _ _ => rfl) hsub
  | ag | tu | ptr | clo | junk => exact .junk _
theorem view_cr (g : GR G s a w A β) {d : D} {v : Value} (h : DR w A β s.N d v) : CR w (own s A β) (s.view d) v := by
  have hsub : ∀ b, A b → own s A β b := fun _ h => .inl h
  cases d with
  | ref τ sz off n => exact ref_cr g h
  | v | nl | sl | ip => exact (h.toC rfl).mono (fun _ _ => rfl) hsub
  | tu | ptr | junk => exact .junk _
  | ag ds =>
    obtain ⟨cs, rfl, hn, hr⟩ := dr_ag h
    refine .ag _ _ (by simpa using hn) fun i hi => ?_
    simp only [List.length_map] at hi
    have := viewA_cr g (hr i hi)
    simpa [List.getD, hi] using this
  | clo f ds =>
    simp only [S.view]
    split
    · next e =>
      have : ds = [] := List.eq_nil_of_length_eq_zero e
      subst this
      cases h with
      | cl d x h' => cases h'; exact .clo f
      | clo f ds cs hn hr =>
        have : cs = #[] := Array.eq_empty_of_size_eq_zero (by simpa using hn)
        subst this; exact .clo f
    · exact .junk _
theorem view_cl {d : D} {v : Value} (h : DR w A β s.N d v) (ho : d.owned = false) : CR w A (s.view d) v := by
  cases d with
  | ref | ptr => simp [D.owned] at ho
  | v | nl | sl | ip => exact h.toC rfl
  | tu | junk => exact .junk _
  | ag ds =>
    obtain ⟨cs, rfl, hn, hr⟩ := dr_ag h
    refine .ag _ _ (by simpa using hn) fun i hi => ?_
    simp only [List.length_map] at hi
    have h1 : (ds.getD i .junk).ownA = false := by
      simp only [D.owned, List.any_eq_false] at ho
      have := ho _ (getD_mem (d := D.junk) hi)
      simpa using this
    have h2 : CR w A (s.viewA (ds.getD i .junk)) (cs.getD i undef) := by
      have h3 := hr i hi
      cases hd : ds.getD i .junk with
      | ref | ptr => rw [hd] at h1; simp [D.ownA] at h1
      | v | nl | sl | ip => rw [hd] at h3; exact h3.toC rfl
      | ag | tu | clo | junk => exact .junk _
    simpa [List.getD, hi] using h2
  | clo f ds =>
    simp only [S.view]
    split
    · next e =>
      have : ds = [] := List.eq_nil_of_length_eq_zero e
      subst this
      cases h with
      | cl d x h' => cases h'; exact .clo f
      | clo f ds cs hn hr =>
        have : cs = #[] := Array.eq_empty_of_size_eq_zero (by simpa using hn)
        subst this; exact .clo f
    · exact .junk _

theorem plain_cr {w' : World} {A' : Nat → Prop} {d : D} {x : Value} (h : CR w A d x) (hp : d.plain = true) : CR w' A' d x := by
  have sc : ∀ (d : D) (x : Value), d.scalar = true → CR w A d x → CR w' A' d x := by
    intro d x h1 h2
    cases d <;> first | (cases h2; exact .v _) | (simp [D.scalar] at h1)
  cases h with
  | v x => exact .v x
  | tu ds cs hn hr => exact .tu ds cs hn fun i hi => sc _ _ (List.all_eq_true.1 hp _ (getD_mem hi)) (hr i hi)
  | ag ds cs hn hr => exact .ag ds cs hn fun i hi => sc _ _ (List.all_eq_true.1 hp _ (getD_mem hi)) (hr i hi)
  | nl | sl0 | sl | ip | clo | junk => simp [D.plain] at hp

/-- More blocks are let be read. -/
theorem GR.extA (g : GR G s a w A β) {A' : Nat → Prop} (h1 : ∀ b, A b → A' b) (h2 : ∀ b, A' b → A b ∨ (G.w0.heap.size ≤ b ∧ b < w.heap.size ∧ ∀ τ, τ < s.N → s.M τ ≠ none → β τ ≠ some b)) : GR G s a w A' β := by
  refine ⟨g.size, g.defers, g.below, fun b hb => h1 b (g.sub b hb), fun b hb => ?_, fun b hb => ?_, fun t => (g.slots t).mono (fun _ _ => rfl) h1 (Shp.refl _) (Nat.le_refl _) (fun _ _ => rfl), fun τ ob hτ hm => ?_, g.inj, fun τ b hτ hm hb => ⟨(g.fresh τ b hτ hm hb).1, fun hA => ?_⟩, fun t d ht => (g.keep t d ht).mono (fun _ _ => rfl) h1⟩
  · rcases h2 b hb with h | h
    · exact g.up b h
    · exact .inr ⟨h.1, h.2.1⟩
  · rcases h2 b hb with h | h
    · exact g.low b h
    · exact h.2.1
  · rcases g.objs τ ob hτ hm with h | ⟨b, arr, T, k1, k2, k3, k4, k5⟩
    · exact .inl h
    · exact .inr ⟨b, arr, T, k1, k2, k3, k4, fun i j hi hj => ⟨(k5 i j hi hj).1.mono (fun _ _ => rfl) h1 (Shp.refl _) (Nat.le_refl _) (fun _ _ => rfl), fun hf => ((k5 i j hi hj).2.1 hf).mono (fun _ _ => rfl) h1, (k5 i j hi hj).2.2⟩⟩
  · rcases h2 b hA with h | h
    · exact (g.fresh τ b hτ hm hb).2 h
    · exact h.2.2 τ hτ hm hb

/-- What a call's operation is. -/
structure CallOp (P : Program) (o : Oper) (f : FuncId) (args : Array Operand) : Prop where
  ho : ∃ ats, o.op = .call ⟨.value (.func f), args, ats⟩
  hf : ∃ fn, P.funcs[f]? = some fn ∧ fn.body.isSome = true ∧ (fn.name == "runtime.NumGoroutine") = false
theorem run_call {f : FuncId} {args : Array Operand} (h : CallOp P o f args) (w' : World) : (execOp a.eval o).run P w' = .ok (.enter f (args.map a.eval)) w' := by
  obtain ⟨ats, ho⟩ := h.ho
  obtain ⟨fn, hf, hb, hn⟩ := h.hf
  have hb' : fn.body.isNone = false := by cases hx : fn.body <;> simp_all
  have hn' : (if (fn.name == "runtime.NumGoroutine") = true then (pure .numGoroutine : Sem Next) else (if fn.body.isNone = true then (do
      mark (.extern f)
      if let some e := Extern.findNext fn then return ← e (args.map a.eval)
      match Extern.find fn with
      | some e => pure (.value (← e (args.map a.eval)))
      | none =>
        if fn.name.endsWith ".init" && !fn.name.startsWith "(" && !fn.name.startsWith "gosem." then pure (.value (.tuple #[]))
        else unsupported (.extern fn.name)) else pure (.enter f (args.map a.eval)))) = pure (.enter f (args.map a.eval)) := by
    rw [if_neg (by rw [hn]; simp), if_neg (by rw [hb']; simp)]
  have e0 : a.eval (.func f) = .func (.func f) #[] #[] := rfl
  simp only [execOp, ho, resolve, e0, Deferred.ofValue, invoke, callFunc, Array.empty_append, Array.append_empty, Sem.run_bind, Sem.run_pure, Result.andThen_ok, run_program, hf]
  simp [hn, hb']

theorem args_cr {ys : List O} {args : Array Operand} (hys : args.toList.mapM cO = some ys) (A' : Nat → Prop) (ds' : List D) (hl : Les (ys.map fun y => s.view (s.g y)) ds')
    (hv : ∀ x y, cO x = some y → y ∈ ys → CR w A' (s.view (s.g y)) (a.eval x)) : (args.map a.eval).size = ds'.length ∧ ∀ i, i < ds'.length → CR w A' (ds'.getD i .junk) ((args.map a.eval).getD i undef) := by
  obtain ⟨l⟩ := args
  simp only at hys
  have key : ∀ (l : List Operand) (ys : List O) (ds' : List D), l.mapM cO = some ys → Les (ys.map fun y => s.view (s.g y)) ds' → (∀ x y, cO x = some y → y ∈ ys → CR w A' (s.view (s.g y)) (a.eval x)) →
      l.length = ds'.length ∧ ∀ i, i < ds'.length → CR w A' (ds'.getD i .junk) ((l.map a.eval).getD i undef) := by
    intro l
    induction l with
    | nil => intro ys ds' h hl _; simp at h; subst h; cases hl; exact ⟨rfl, fun i hi => by simp at hi⟩
    | cons x l ih =>
      intro ys ds' h hl hv
      simp only [List.mapM_cons, Option.bind_eq_bind, Option.pure_def, Option.bind_eq_some_iff] at h
      obtain ⟨y, hy, ys', hys, h⟩ := h
      cases h
      cases hl with
      | cons h1 ht =>
        obtain ⟨i1, i2⟩ := ih ys' _ hys ht (fun x y h1 h2 => hv x y h1 (by simp [h2]))
        refine ⟨by simp [i1], fun i hi => ?_⟩
        cases i with
        | zero => simpa using h1 _ _ _ (hv x y hy (by simp))
        | succ i => simpa using i2 i (by simpa using hi)
  obtain ⟨k1, k2⟩ := key l ys ds' hys hl hv
  refine ⟨by simpa using k1, fun i hi => ?_⟩
  have := k2 i hi
  have hl : i < l.length := by omega
  simpa [List.getD, hl] using this

theorem ef_call {f : FuncId} {args : Array Operand} {ys : List O} {K : S → Prop} (h : CallOp P o f args) (hys : args.toList.mapM cO = some ys) (hd : ∀ t, o.dst = some t → t < G.nt ∧ ∀ y, ¬ G.T t y)
    (hk : CallVC P f (ys.map fun y => s.view (s.g y)) (ys.any fun y => (s.g y).owned) (putK o.dst s K)) (g : GR G s a w A β) : Does P G a w o K := by
  obtain ⟨ds', R, hl, hS, hR⟩ := hk
  intro next Q hn
  unfold Oper.wp
  rw [run_call h w]
  rw [Oper.upon_enter]
  cases hown : (ys.any fun y => (s.g y).owned) with
  | false =>
    obtain ⟨a1, a2⟩ := args_cr (w := w) hys A ds' hl (fun x y hx hy => view_cl (g.evalO hx) (by
      have := List.any_eq_false.1 hown y hy; simpa using this))
    refine (hS w A _ g.low a1 a2).mono ?_
    rintro e w' ⟨x, d, rfl, hRd, hb, hc⟩
    refine hn _ _ _ ((hR d hRd).2) ⟨fun b => A b ∨ (w.heap.size ≤ b ∧ b < w'.heap.size), β, ?_⟩
    refine GR.put (GR.extA (g.world hb) (fun b h => .inl h) (fun b hb' => ?_)) (.cl _ _ hc) hd
    rcases hb' with h | h
    · exact .inl h
    · exact .inr ⟨Nat.le_trans g.below.size h.1, h.2, fun τ h1 h2 h3 => absurd (g.blk h1 h2 h3) (by omega)⟩
  | true =>
    obtain ⟨a1, a2⟩ := args_cr (w := w) hys (own s A β) ds' hl (fun x y hx _ => view_cr g (g.evalO hx))
    refine (hS w (own s A β) _ (fun b hb => ?_) a1 a2).mono ?_
    · rcases hb with h | ⟨τ, h1, h2, h3⟩
      · exact g.low b h
      · exact g.blk h1 h2 h3
    rintro e w' ⟨x, d, rfl, hRd, hb, hc⟩
    obtain ⟨hp, hk⟩ := hR d hRd
    exact hn _ _ _ hk ⟨A, β, GR.put (g.world hb) (.cl _ _ (plain_cr hc (hp hown))) hd⟩

theorem pure_does {K : S → Prop} (h : ∃ d v, putK o.dst s K d ∧ DR w A β s.N d v ∧ Yields P a w o v) (g : GR G s a w A β) (hd : ∀ t, o.dst = some t → t < G.nt ∧ ∀ y, ¬ G.T t y) : Does P G a w o K := by
  obtain ⟨d, v, h1, h2, h3⟩ := h
  exact Does.value (h3 w (Same.refl w)) h1 ⟨A, β, g.put h2 hd⟩

theorem vcI_pu {i : MI} {d : Option Nat} {K : S → Prop} (hq : i.quiet = true) : vcI P i d K s = puI i s (putK d s K) := by
  cases i <;> first | rfl | simp [MI.quiet] at hq

end
end Go.Dm
