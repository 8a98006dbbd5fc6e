/-
  A logic for Go functions over plain data, part H: append; what a call reads; calls.
-/
import Derived.Test.YtagllokfkliaoaaDmG
namespace Go.Dm
open Go.RowKit
section
variable {P : Program} {G : Gh} {s : S} {a : Act} {w : World} {A : Nat → Prop} {β : Nat → Option Nat} {o : Oper}

theorem DR.killA {w' : World} {A' : Nat → Prop} {β' : Nat → Option Nat} {N τ : Nat} {d : D} {x : Value} (h : DR w A β N d x) (hw : ∀ b, A b → w'.heap[b]? = w.heap[b]?) (hA : ∀ b, A b → A' b) (hs : Shp w w')
    (hβ : ∀ σ, σ < N → σ ≠ τ → β' σ = β σ) : DR w' A' β' N (d.killA τ) x := by
  cases h with
  | cl d x h =>
    have h' := h.mono hw hA
    cases h with
    | v | nl | sl0 | sl | ip | junk => exact .cl _ _ h'
    | ag | tu | clo => exact DR.junk
  | ref σ sz off n c b arr T h1 hb hc hh hr =>
    simp only [D.killA]
    by_cases e : σ = τ
    · rw [if_pos e]; exact DR.junk
    · rw [if_neg e]
      obtain ⟨arr', h1', h2'⟩ := hs b arr T hh
      exact .ref σ sz off n c b arr' T h1 (by rw [hβ σ h1 e]; exact hb) hc h1' (by rw [h2']; exact hr)
  | refz σ sz off b h1 =>
    simp only [D.killA]
    by_cases e : σ = τ
    · rw [if_pos e]; exact DR.junk
    · rw [if_neg e]; exact .refz σ sz off b h1
  | ptr σ sz i o b h1 hb =>
    simp only [D.killA]
    by_cases e : σ = τ
    · rw [if_pos e]; exact DR.junk
    · rw [if_neg e]; exact .ptr σ sz i o b h1 (by rw [hβ σ h1 e]; exact hb)
  | ag | tu | clo => exact DR.junk
theorem map_killA {N τ : Nat} {w' : World} {A' : Nat → Prop} {β' : Nat → Option Nat} {ds : List D} {f : Nat → Value} (hr : ∀ i, i < ds.length → DR w A β N (ds.getD i .junk) (f i)) (hw : ∀ b, A b → w'.heap[b]? = w.heap[b]?) (hA : ∀ b, A b → A' b) (hs : Shp w w')
    (hβ : ∀ σ, σ < N → σ ≠ τ → β' σ = β σ) : ∀ i, i < (ds.map (D.killA τ)).length → DR w' A' β' N ((ds.map (D.killA τ)).getD i .junk) (f i) := by
  intro i hi
  simp only [List.length_map] at hi
  have e : (ds.map (D.killA τ)).getD i .junk = (ds.getD i .junk).killA τ := by simp [List.getD, hi]
  rw [e]; exact (hr i hi).killA hw hA hs hβ
theorem DR.kill {w' : World} {A' : Nat → Prop} {β' : Nat → Option Nat} {N τ : Nat} {d : D} {x : Value} (h : DR w A β N d x) (hw : ∀ b, A b → w'.heap[b]? = w.heap[b]?) (hA : ∀ b, A b → A' b) (hs : Shp w w')
    (hβ : ∀ σ, σ < N → σ ≠ τ → β' σ = β σ) : DR w' A' β' N (d.kill τ) x := by
  have hA1 := h.killA hw hA hs hβ
  cases h with
  | cl d x h =>
    cases h with
    | v | nl | sl0 | sl | ip | junk => exact hA1
    | ag ds cs hn hr => exact .ag _ _ (by simpa using hn) (map_killA (fun i hi => .cl _ _ (hr i hi)) hw hA hs hβ)
    | tu ds cs hn hr => exact .tu _ _ (by simpa using hn) (map_killA (fun i hi => .cl _ _ (hr i hi)) hw hA hs hβ)
    | clo f => exact .cl _ _ (.clo f)
  | ref | refz | ptr => exact hA1
  | ag ds cs hn hr => exact .ag _ _ (by simpa using hn) (map_killA hr hw hA hs hβ)
  | tu ds cs hn hr => exact .tu _ _ (by simpa using hn) (map_killA hr hw hA hs hβ)
  | clo f ds cs hn hr => exact .clo f _ _ (by simpa using hn) (map_killA hr hw hA hs hβ)

/-- An object is laid anew; what named it is forgotten. -/
theorem GR.regrow (g : GR G s a w A β) {τ : Nat} (hM : s.M τ ≠ none) {w' : World} {β' : Nat → Option Nat} {ob' : Ob}
    (h1 : Below G.w0.heap.size G.w0 w') (h2 : ∀ b, A b → w'.heap[b]? = w.heap[b]?) (h3 : Shp w w') (h4 : ∀ σ b, σ ≠ τ → σ < s.N → s.M σ ≠ none → β σ = some b → w'.heap[b]? = w.heap[b]?) (h5 : ∀ σ, σ ≠ τ → β' σ = β σ)
    (h6 : OR w' A β' s.N ob' τ) (h7 : ∀ b, β' τ = some b → G.w0.heap.size ≤ b ∧ ¬ A b ∧ ∀ σ, σ ≠ τ → σ < s.N → s.M σ ≠ none → β σ ≠ some b) (h8 : w.heap.size ≤ w'.heap.size) : GR G ((s.kill τ).setM τ ob') a w' A β' := by
  have hβ : ∀ σ, σ < s.N → σ ≠ τ → β' σ = β σ := fun σ _ h => h5 σ h
  have hM' : ∀ σ, ((s.kill τ).setM τ ob').M σ = if σ = τ then some ob' else (s.M σ).map (Ob.kill τ) := fun σ => rfl
  have live : ∀ σ, ((s.kill τ).setM τ ob').M σ ≠ none → s.M σ ≠ none := fun σ h => by
    rw [hM'] at h
    by_cases e : σ = τ
    · rw [e]; exact hM
    · rw [if_neg e] at h
      intro e2; rw [e2] at h; exact h rfl
  refine ⟨g.size, g.defers, h1, g.sub, fun b hb => ?_, fun b hb => Nat.lt_of_lt_of_le (g.low b hb) h8, fun t => (g.slots t).kill h2 (fun _ h => h) h3 hβ, fun σ ob hσ hm => ?_, fun σ ρ b e1 e2 m1 m2 b1 b2 => ?_, fun σ b e1 m1 b1 => ?_, fun t d ht => (g.keep t d ht).mono h2 (fun _ h => h)⟩
  · rcases g.up b hb with h | h
    · exact .inl h
    · exact .inr ⟨h.1, Nat.lt_of_lt_of_le h.2 h8⟩
  · rw [hM'] at hm
    by_cases e : σ = τ
    · subst e; rw [if_pos rfl] at hm; cases hm; exact h6
    · rw [if_neg e] at hm
      cases hs : s.M σ with
      | none => rw [hs] at hm; cases hm
      | some ob0 =>
        rw [hs] at hm
        simp only [Option.map_some, Option.some.injEq] at hm
        rcases g.objs σ ob0 hσ hs with ⟨k1, k2⟩ | ⟨b, arr, T, k1, k2, k3, k4, k5⟩
        · left
          refine ⟨by rw [h5 σ e]; exact k1, ?_⟩
          subst hm; unfold Ob.kill; split
          · exact k2
          · simp [k2]
        · right
          have hblk := h4 σ b e hσ (by rw [hs]; simp) k1
          subst hm
          unfold Ob.kill
          by_cases hf : ob0.flat = true
          · rw [if_pos hf]
            exact ⟨b, arr, T, by rw [h5 σ e]; exact k1, by rw [hblk]; exact k2, k3, k4, fun i j hi hj => by
              obtain ⟨q1, q2, q3⟩ := k5 i j hi hj
              have q2' := (q2 hf).mono h2 (fun _ h => h)
              exact ⟨.cl _ _ q2', fun _ => q2', q3⟩⟩
          · rw [if_neg hf]
            refine ⟨b, arr, T, by rw [h5 σ e]; exact k1, by rw [hblk]; exact k2, by simpa using k3, fun i hi => ?_, fun i j hi hj => ?_⟩
            · simp only [List.length_map] at hi
              have := k4 i hi
              simpa [List.getD, hi] using this
            · simp only [List.length_map] at hi
              simp only at hj
              obtain ⟨q1, q2, q3⟩ := k5 i j hi hj
              have hj2 : j < (ob0.es.getD i []).length := by rw [k4 i hi]; exact hj
              have e3 : ((ob0.es.map fun e => e.map (D.kill τ)).getD i []).getD j .junk = ((ob0.es.getD i []).getD j .junk).kill τ := by
                rw [show (ob0.es.map fun e => e.map (D.kill τ)).getD i [] = (ob0.es.getD i []).map (D.kill τ) by simp [List.getD, hi]]
                simp only [List.getD_eq_getElem?_getD] at hj2 ⊢
                simp [hj2]
              refine ⟨?_, fun h => absurd h hf, q3⟩
              show DR w' A β' s.N (((ob0.es.map fun e => e.map (D.kill τ)).getD i []).getD j .junk) _
              rw [e3]; exact q1.kill h2 (fun _ h => h) h3 hβ
  · have k1 := live σ m1
    have k2 := live ρ m2
    by_cases p1 : σ = τ
    · by_cases p2 : ρ = τ
      · rw [p1, p2]
      · rw [p1] at b1
        exact absurd (by rw [← h5 ρ p2]; exact b2) ((h7 b b1).2.2 ρ p2 e2 k2)
    · by_cases p2 : ρ = τ
      · rw [p2] at b2
        exact absurd (by rw [← h5 σ p1]; exact b1) ((h7 b b2).2.2 σ p1 e1 k1)
      · exact g.inj σ ρ b e1 e2 k1 k2 (by rw [← h5 σ p1]; exact b1) (by rw [← h5 ρ p2]; exact b2)
  · by_cases p1 : σ = τ
    · rw [p1] at b1; exact ⟨(h7 b b1).1, (h7 b b1).2.1⟩
    · exact g.fresh σ b e1 (live σ m1) (by rw [← h5 σ p1]; exact b1)

/-- What a view as a slice reads: the rows' cells. -/
theorem view_src (g : GR G s a w A β) {y : D} {v : Value} (ev : DR w A β s.N y v) {z : Nat} {ys : List (List D)} (hv : s.view y = .sl z ys) :
    ∃ (b : Option Addr) (c : Nat) (news : Array Value), v = .slice b ys.length c ∧ news.size = ys.length * z ∧ (∀ w', Same w w' → (Builtin.firstCells z ys.length v).run P w' = .ok news w') ∧
      (∀ i, i < ys.length → (ys.getD i []).length = z) ∧ ∀ i j, i < ys.length → j < z → CR w A ((ys.getD i []).getD j .junk) (news.getD (i * z + j) undef) ∧ (news.getD (i * z + j) undef).oneCell' = true := by
  have mk : ∀ (b off c : Nat) (us : Nat → Value), v = .slice (some ⟨b, off, none⟩) ys.length c → (0 < ys.length * z → b < w.heap.size) → (∀ m, m < ys.length * z → w.cell? ⟨b, off + m, none⟩ = some (us m)) →
      ∀ w', Same w w' → (Builtin.firstCells z ys.length v).run P w' = .ok ((List.range (ys.length * z)).map us).toArray w' := by
    intro b off c us e hb hc w' hs
    subst e
    exact run_loadCells (P := P) w' ⟨b, off, none⟩ (ys.length * z) us (fun j hj => by rw [addr_add, hs.cell (hb (by omega))]; exact hc j hj)
  have get : ∀ (us : Nat → Value) (m : Nat), m < ys.length * z → ((List.range (ys.length * z)).map us).toArray.getD m undef = us m := fun us m hm => by simp [hm]
  have nilcase : ∀ (b : Option Addr) (c : Nat), ys = [] → v = .slice b 0 c → ∃ (b : Option Addr) (c : Nat) (news : Array Value), v = .slice b ys.length c ∧ news.size = ys.length * z ∧ (∀ w', Same w w' → (Builtin.firstCells z ys.length v).run P w' = .ok news w') ∧
      (∀ i, i < ys.length → (ys.getD i []).length = z) ∧ ∀ i j, i < ys.length → j < z → CR w A ((ys.getD i []).getD j .junk) (news.getD (i * z + j) undef) ∧ (news.getD (i * z + j) undef).oneCell' = true := by
    intro b c h1 h2
    subst h1; subst h2
    refine ⟨b, c, #[], rfl, by simp, fun w' _ => ?_, fun i hi => by simp at hi, fun i j hi => by simp at hi⟩
    cases b <;> simp [Builtin.firstCells, loadCells, loadCellsFrom]
  have flat : ∀ m, m < ys.length * z → z ≠ 0 ∧ m / z < ys.length ∧ m % z < z ∧ m / z * z + m % z = m := by
    intro m hm
    have hz : 0 < z := by
      rcases Nat.eq_zero_or_pos z with h | h
      · subst h; simp at hm
      · exact h
    exact ⟨by omega, (Nat.div_lt_iff_lt_mul hz).2 hm, Nat.mod_lt _ hz, by rw [Nat.mul_comm]; exact Nat.div_add_mod m z⟩
  cases y with
  | sl z0 es =>
    simp only [S.view, D.sl.injEq] at hv
    obtain ⟨rfl, rfl⟩ := hv
    cases ev with
    | cl d x h' =>
      cases h' with
      | sl0 sz b c => exact nilcase b c rfl rfl
      | sl sz es b off n c us hA hn hcap hs hc hr =>
        subst hn
        refine ⟨_, c, _, rfl, by simp, mk b off c (fun m => us (m / z0) (m % z0)) rfl (fun _ => g.low b hA) (fun m hm => ?_), hs, fun i j hi hj => ?_⟩
        · obtain ⟨f1, f2, f3, f4⟩ := flat m hm
          have := (hc (m / z0) (m % z0) f2 f3).1
          rw [f4] at this; exact this
        · rw [get _ _ (in_row hi hj)]
          have e1 : (i * z0 + j) / z0 = i := by rw [Nat.mul_comm, Nat.mul_add_div (by omega), Nat.div_eq_of_lt hj, Nat.add_zero]
          have e2 : (i * z0 + j) % z0 = j := by rw [Nat.mul_comm, Nat.mul_add_mod]; exact Nat.mod_eq_of_lt hj
          rw [e1, e2]; exact ⟨hr i j hi hj, (hc i j hi hj).2⟩
  | ref τ sz off n =>
    simp only [S.view, viewO] at hv
    split at hv
    · next ob hM =>
      split at hv
      · next hc =>
        obtain ⟨hf, rfl, hle⟩ := hc
        simp only [D.sl.injEq] at hv
        obtain ⟨rfl, rfl⟩ := hv
        have hyl : ((ob.es.drop off).take n).length = n := by rw [List.length_take, List.length_drop]; omega
        cases ev with
        | cl d x h' => cases h'
        | ref τ sz off n c b arr T hN hb hc hh hr =>
          rcases g.objs τ ob hN hM with ⟨k1, _⟩ | ⟨b', arr', T', hb', hh', hl, he, hro⟩
          · rw [k1] at hb; cases hb
          · rw [hb] at hb'; cases hb'
            rw [hh] at hh'; cases hh'
            have hmul : (off + n) * ob.sz ≤ ob.es.length * ob.sz := Nat.mul_le_mul_right _ hle
            rw [Nat.add_mul] at hmul
            have hgetys : ∀ i, i < n → ((ob.es.drop off).take n).getD i [] = ob.es.getD (off + i) [] := by
              intro i hi
              simp only [List.getD_eq_getElem?_getD, List.getElem?_take, hi, if_true, List.getElem?_drop]
            obtain ⟨hbl, _⟩ := Array.getElem?_eq_some_iff.1 hh
            refine ⟨some ⟨b, off * ob.sz, none⟩, c, _, by rw [hyl], by simp, mk b (off * ob.sz) c (fun m => arr.getD (off * ob.sz + m) undef) (by rw [hyl]) (fun _ => hbl) (fun m hm => ?_), fun i hi => ?_, fun i j hi hj => ?_⟩
            · rw [hyl] at hm
              have hlt : off * ob.sz + m < arr.size := by omega
              simp only [World.cell?, hh]
              simp [hlt]
            · rw [hyl] at hi; rw [hgetys i hi]; exact he _ (by omega)
            · rw [hyl] at hi
              have hir : i * ob.sz + j < ((ob.es.drop off).take n).length * ob.sz := by rw [hyl]; exact in_row hi hj
              rw [get _ _ hir, hgetys i hi]
              have := hro (off + i) j (by omega) hj
              rw [Nat.add_mul, Nat.add_assoc] at this
              exact ⟨this.2.1 hf, this.2.2⟩
        | refz τ sz off b hN => exact nilcase b 0 (by simp) rfl
      · cases hv
    · cases hv
  | v | nl | ip | junk | ag | ptr | tu => simp [S.view] at hv
  | clo f ds => simp only [S.view] at hv; split at hv <;> cases hv
end
end Go.Dm
