/-
  A logic for Go functions over plain data, part M: code and functions.
-/
import Derived.Test.YtagllokfkliaoaaDmL
namespace Go.Dm
open Go.RowKit
section
variable {P : Program} {G : Gh} {s : S} {a : Act} {w : World} {A : Nat → Prop} {β : Nat → Option Nat}

theorem DR.trimA {N n : Nat} {d : D} {x : Value} (h : DR w A β N d x) : DR w A β n (d.trimA n) x := by
  cases h with
  | cl d x h =>
    cases h with
    | v x => exact .cl _ _ (.v x)
    | nl => exact .cl _ _ .nl
    | sl0 sz b c => exact .cl _ _ (.sl0 sz b c)
    | sl sz es b off n c us h1 h2 h3 h4 h5 h6 => exact .cl _ _ (.sl sz es b off n c us h1 h2 h3 h4 h5 h6)
    | ip e o b off us h1 h2 h3 => exact .cl _ _ (.ip e o b off us h1 h2 h3)
    | ag | tu | clo | junk => exact DR.junk
  | ref σ sz off n c b arr T h1 hb hc hh hr =>
    simp only [D.trimA]
    split
    · next e => exact .ref σ sz off _ c b arr T e hb hc hh hr
    · exact DR.junk
  | refz σ sz off b h1 =>
    simp only [D.trimA]
    split
    · next e => exact .refz σ sz off b e
    · exact DR.junk
  | ptr σ sz i o b h1 hb =>
    simp only [D.trimA]
    split
    · next e => exact .ptr σ sz i o b e hb
    · exact DR.junk
  | ag | tu | clo => exact DR.junk
theorem map_trimA {N n : Nat} {ds : List D} {f : Nat → Value} (hr : ∀ i, i < ds.length → DR w A β N (ds.getD i .junk) (f i)) : ∀ i, i < (ds.map (D.trimA n)).length → DR w A β n ((ds.map (D.trimA n)).getD i .junk) (f i) := by
  intro i hi
  simp only [List.length_map] at hi
  have e : (ds.map (D.trimA n)).getD i .junk = (ds.getD i .junk).trimA n := by simp [List.getD, hi]
  rw [e]; exact (hr i hi).trimA
theorem DR.trim {N n : Nat} {d : D} {x : Value} (h : DR w A β N d x) : DR w A β n (d.trim n) x := by
  have hA1 := h.trimA (n := n)
  cases h with
  | cl d x h =>
    cases h with
    | v | nl | sl0 | sl | ip | junk => exact hA1
    | ag ds cs hn hr => exact .ag _ _ (by simpa using hn) (map_trimA (N := N) (fun i hi => .cl _ _ (hr i hi)))
    | tu ds cs hn hr => exact .tu _ _ (by simpa using hn) (map_trimA (N := N) (fun i hi => .cl _ _ (hr i hi)))
    | clo f => exact .cl _ _ (.clo f)
  | ref | refz | ptr => exact hA1
  | ag ds cs hn hr => exact .ag _ _ (by simpa using hn) (map_trimA hr)
  | tu ds cs hn hr => exact .tu _ _ (by simpa using hn) (map_trimA hr)
  | clo f ds cs hn hr => exact .clo f _ _ (by simpa using hn) (map_trimA hr)

theorem GR.trim (g : GR G s a w A β) {n : Nat} (hn : n ≤ s.N) : GR G (s.trim n) a w A β := by
  have hM : ∀ τ, (s.trim n).M τ = if τ < n then (s.M τ).map (Ob.trim n) else none := fun _ => rfl
  have live : ∀ τ, τ < n → (s.trim n).M τ ≠ none → s.M τ ≠ none := fun τ h h2 e => h2 (by rw [hM, if_pos h, e]; rfl)
  refine ⟨g.size, g.defers, g.below, g.sub, g.up, g.low, fun t => (g.slots t).trim, fun τ ob hτ hm => ?_, fun τ σ b h1 h2 h3 h4 e1 e2 => ?_, fun τ b h1 h2 e => ?_, g.keep⟩
  · have hτ' : τ < n := hτ
    rw [hM, if_pos hτ'] at hm
    cases hs : s.M τ with
    | none => rw [hs] at hm; cases hm
    | some ob0 =>
      rw [hs] at hm
      simp only [Option.map_some, Option.some.injEq] at hm
      subst hm
      rcases g.objs τ ob0 (Nat.lt_of_lt_of_le hτ' hn) hs with ⟨k1, k2⟩ | ⟨b, arr, T, k1, k2, k3, k4, k5⟩
      · left; refine ⟨k1, ?_⟩; unfold Ob.trim; split
        · exact k2
        · simp [k2]
      · right
        unfold Ob.trim
        by_cases hf : ob0.flat = true
        · rw [if_pos hf]
          exact ⟨b, arr, T, k1, k2, k3, k4, fun i j hi hj => ⟨.cl _ _ ((k5 i j hi hj).2.1 hf), (k5 i j hi hj).2⟩⟩
        · rw [if_neg hf]
          refine ⟨b, arr, T, k1, k2, by simpa using k3, fun i hi => ?_, fun i j hi hj => ?_⟩
          · simp only [List.length_map] at hi
            have := k4 i hi
            simpa [List.getD, hi] using this
          · simp only [List.length_map] at hi
            simp only at hj
            obtain ⟨q1, q2, q3⟩ := k5 i j hi hj
            have hj2 : j < (ob0.es.getD i []).length := by rw [k4 i hi]; exact hj
            have e3 : ((ob0.es.map fun e => e.map (D.trim n)).getD i []).getD j .junk = ((ob0.es.getD i []).getD j .junk).trim n := by
              rw [show (ob0.es.map fun e => e.map (D.trim n)).getD i [] = (ob0.es.getD i []).map (D.trim n) by simp [List.getD, hi]]
              simp only [List.getD_eq_getElem?_getD] at hj2 ⊢
              simp [hj2]
            refine ⟨?_, fun h => absurd h hf, q3⟩
            show DR w A β n (((ob0.es.map fun e => e.map (D.trim n)).getD i []).getD j .junk) _
            rw [e3]; exact q1.trim
  · exact g.inj τ σ b (Nat.lt_of_lt_of_le h1 hn) (Nat.lt_of_lt_of_le h2 hn) (live τ h1 h3) (live σ h2 h4) e1 e2
  · exact g.fresh τ b (Nat.lt_of_lt_of_le h1 hn) (live τ h1 h2) e

theorem keepA_cr {d : D} {N : Nat} {x : Value} (h : DR w A β N d x) : CR w A d.keepA x := by
  cases d with
  | v | nl | sl | ip => exact h.toC rfl
  | _ => exact .junk _
theorem keep_cr {d : D} {N : Nat} {x : Value} (h : DR w A β N d x) : CR w A d.keep x := by
  cases d with
  | v | nl | sl | ip => exact h.toC rfl
  | ag ds =>
    obtain ⟨cs, rfl, hn, hr⟩ := dr_ag h
    refine .ag _ _ (by simpa using hn) fun i hi => ?_
    simp only [List.length_map] at hi
    have := keepA_cr (hr i hi)
    simpa [List.getD, hi] using this
  | tu ds =>
    obtain ⟨cs, rfl, hn, hr⟩ := dr_tu h
    refine .tu _ _ (by simpa using hn) fun i hi => ?_
    simp only [List.length_map] at hi
    have := keepA_cr (hr i hi)
    simpa [List.getD, hi] using this
  | clo f ds =>
    simp only [D.keep]
    split
    · next e =>
      have : ds = [] := List.eq_nil_of_length_eq_zero e
      subst this
      cases h with
      | cl d x h' => cases h'; exact .clo f
      | clo f ds cs hn hr =>
        have : cs = #[] := Array.eq_empty_of_size_eq_zero (by simpa using hn)
        subst this; exact .clo f
    · exact .junk _
  | _ => exact .junk _

theorem look_mem {α : Type} {t : Nat} {d : α} : ∀ {l : List (Nat × α)}, look t l = some d → (t, d) ∈ l
  | [], h => by simp [look] at h
  | (i, x) :: r, h => by
    unfold look at h
    split at h
    · next e => cases h; subst e; simp
    · exact List.mem_cons_of_mem _ (look_mem h)

/-- The state at a loop's head, out of a state that fits. -/
theorem GR.head {s' : S} (g : GR G s' a w A β) {asgL : List Nat} {ups : List (Nat × D)} {ms : List (Nat × Ob)} (hN : s'.N = s.N) (hf : Fits s' ups ms) (hk : ∀ t, asgL.contains t = false → G.T t (s.ρ t).keep) : GR G (s.head asgL ups ms) a w A β := by
  have hM : ∀ τ ob, (s.head asgL ups ms).M τ = some ob → s'.M τ = some ob := fun τ ob h => hf.2 _ (look_mem h)
  have live : ∀ τ, (s.head asgL ups ms).M τ ≠ none → s'.M τ ≠ none := fun τ h e => by
    obtain ⟨ob, hob⟩ := Option.ne_none_iff_exists'.1 h
    rw [hM τ ob hob] at e; cases e
  refine ⟨g.size, g.defers, g.below, g.sub, g.up, g.low, fun t => ?_, fun τ ob hτ hm => ?_, fun τ σ b h1 h2 h3 h4 e1 e2 => ?_, fun τ b h1 h2 e => ?_, g.keep⟩
  · show DR w A β s.N (headD (look t ups) (asgL.contains t) s t) _
    cases hl : look t ups with
    | some d =>
      have := hf.1 _ (look_mem hl)
      have h2 := g.slots t
      rw [hN] at h2
      simp only at this
      rw [this] at h2; exact h2
    | none =>
      cases hc : asgL.contains t with
      | true => exact DR.junk
      | false => exact .cl _ _ (g.keep t _ (hk t hc))
  · have hτ' : τ < s'.N := by rw [hN]; exact hτ
    have := g.objs τ ob hτ' (hM τ ob hm)
    rw [hN] at this; exact this
  · exact g.inj τ σ b (by rw [hN]; exact h1) (by rw [hN]; exact h2) (live τ h3) (live σ h4) e1 e2
  · exact g.fresh τ b (by rw [hN]; exact h1) (live τ h2) e

def toX : Ex → Exit
  | .nrm => .normal
  | .exit i => .exit i
  | .ret => .ret
/-- What follows is fit for every way out. -/
def Kont (P : Program) (G : Gh) (st : List Fr) (Q : Exit → Act → World → Prop) : Prop := ∀ e s' a' w', rs P e st s' → SR G s' a' w' → Q (toX e) a' w'

theorem wp_loop_n {c : Code} {Q : Exit → Act → World → Prop} (I : Nat → Act → World → Prop) (round : ∀ n a w, I n a w → c.wp P (Exit.then (fun a' w' => ∃ m, m < n ∧ I m a' w') Q) a w) {n : Nat} (h : I n a w) : (Code.loop c).wp P Q a w := by
  classical
  have hex : ∀ a w, ∃ m : Nat, (∃ n, I n a w) → I m a w ∧ ∀ k, I k a w → m ≤ k := by
    intro a w
    have least : ∀ n, I n a w → ∃ m, I m a w ∧ ∀ k, I k a w → m ≤ k := by
      intro n
      induction n using Nat.strongRecOn with
      | _ n ih =>
        intro hn
        by_cases h : ∃ k, k < n ∧ I k a w
        · obtain ⟨k, h1, h2⟩ := h; exact ih k h1 h2
        · exact ⟨n, hn, fun k hk => Nat.le_of_not_lt fun h1 => h ⟨k, h1, hk⟩⟩
    by_cases h : ∃ n, I n a w
    · obtain ⟨n, hn⟩ := h
      obtain ⟨m, h1, h2⟩ := least n hn
      exact ⟨m, fun _ => ⟨h1, h2⟩⟩
    · exact ⟨0, fun h' => absurd h' h⟩
  let μ : Act → World → Nat := fun a w => Classical.choose (hex a w)
  have hμ : ∀ a w, (∃ n, I n a w) → I (μ a w) a w ∧ ∀ k, I k a w → μ a w ≤ k := fun a w => Classical.choose_spec (hex a w)
  refine wp_loop (fun a w => ∃ n, I n a w) μ ⟨n, h⟩ (fun a w hI => ?_)
  refine wp_mono (round _ a w (hμ a w hI).1) (fun e a' w' hq => ?_)
  cases e with
  | normal =>
    obtain ⟨m, hm, hI'⟩ := hq
    exact ⟨⟨m, hI'⟩, Nat.lt_of_le_of_lt ((hμ a' w' ⟨m, hI'⟩).2 m hI') hm⟩
  | _ => exact hq

theorem mem_dedup : ∀ (l : List Nat) (t : Nat), t ∈ l → t ∈ dedup l
  | [], t, h => by simp at h
  | x :: l, t, h => by
    have ih := mem_dedup l t
    have e : dedup (x :: l) = if (dedup l).contains x then dedup l else x :: dedup l := rfl
    rw [e]
    rcases List.mem_cons.1 h with h | h
    · subst h
      split
      · next hc => simpa using hc
      · simp
    · split
      · exact ih h
      · exact List.mem_cons_of_mem _ (ih h)

theorem GR.weaken {G' : Gh} (g : GR G' s a w A β) (h0 : G.w0 = G'.w0) (h1 : G.A0 = G'.A0) (h2 : G.nt = G'.nt) (h3 : ∀ t d, G.T t d → G'.T t d) : GR G s a w A β :=
  ⟨by rw [h2]; exact g.size, g.defers, by rw [h0]; exact g.below, by rw [h1]; exact g.sub, by rw [h0, h1]; exact g.up, g.low, g.slots, g.objs, g.inj, by rw [h0]; exact g.fresh, fun t d h => g.keep t d (h3 t d h)⟩

theorem code_sound (hmix : P.follows .mixedOrders = true) (nt : Nat) : ∀ (c : Code) (m : MC), cC P nt c = some m → ∀ (G : Gh), G.nt = nt → Free G (asg m) → ∀ (st : List Fr) (s : S) (a : Act) (w : World) (Q : Exit → Act → World → Prop), vc P m st s → SR G s a w → Kont P G st Q → c.wp P Q a w
  | .skip, m, hc, G, hG, hF, st, s, a, w, Q, hv, hs, hK => by
    simp only [cC, Option.some.injEq] at hc; subst hc
    rw [vc] at hv
    exact wp_skip (hK .nrm s a w hv hs)
  | .exit id, m, hc, G, hG, hF, st, s, a, w, Q, hv, hs, hK => by
    simp only [cC, Option.some.injEq] at hc; subst hc
    rw [vc] at hv
    exact wp_exit (hK (.exit id) s a w hv hs)
  | .ret, m, hc, G, hG, hF, st, s, a, w, Q, hv, hs, hK => by
    simp only [cC, Option.some.injEq] at hc; subst hc
    rw [vc] at hv
    exact wp_ret (hK .ret s a w hv hs)
  | .region id ops draw, m, hc, G, hG, hF, st, s, a, w, Q, hv, hs, hK => by
    have hc0 := hc
    simp only [cC, Option.bind_eq_bind, Option.bind_eq_some_iff] at hc
    obtain ⟨l0, h1, hc⟩ := hc
    have hm : ∃ q l, m = .reg q l := by
      split at hc
      · simp only [Option.bind_eq_some_iff, Option.pure_def, Option.some.injEq] at hc
        obtain ⟨q, _, rfl⟩ := hc; exact ⟨q, l0, rfl⟩
      · simp only [Option.pure_def, Option.some.injEq] at hc
        exact ⟨0, l0, hc.symm⟩
    obtain ⟨q, l, rfl⟩ := hm
    rw [vc] at hv
    subst hG
    exact region_sound hmix hc0 hF ⟨q, l, rfl, hv⟩ hs (fun s' a' w' hk hs' => hK .nrm s' a' w' hk hs')
  | .seq x y, m, hc, G, hG, hF, st, s, a, w, Q, hv, hs, hK => by
    simp only [cC, Option.bind_eq_bind, Option.bind_eq_some_iff, Option.pure_def, Option.some.injEq] at hc
    obtain ⟨mx, h1, my, h2, rfl⟩ := hc
    rw [vc] at hv
    have Fx : Free G (asg mx) := fun t ht => hF t (by simp [asg, ht])
    have Fy : Free G (asg my) := fun t ht => hF t (by simp [asg, ht])
    refine wp_seq (code_sound hmix nt x mx h1 G hG Fx (.s my :: st) s a w _ hv hs (fun e s' a' w' hr hs' => ?_))
    cases e with
    | nrm => rw [rs] at hr; exact code_sound hmix nt y my h2 G hG Fy st s' a' w' Q hr hs' hK
    | exit i => rw [rs] at hr; exact hK (.exit i) s' a' w' hr hs'
    | ret => rw [rs] at hr; exact hK .ret s' a' w' hr hs'
  | .cond x p q, m, hc, G, hG, hF, st, s, a, w, Q, hv, hs, hK => by
    simp only [cC, Option.bind_eq_bind, Option.bind_eq_some_iff, Option.pure_def, Option.some.injEq] at hc
    obtain ⟨x', h0, mp, h1, mq, h2, rfl⟩ := hc
    rw [vc] at hv
    have Fp : Free G (asg mp) := fun t ht => hF t (by simp [asg, ht])
    have Fq : Free G (asg mq) := fun t ht => hF t (by simp [asg, ht])
    obtain ⟨A, β, g⟩ := hs
    unfold kCond at hv
    split at hv
    · next b hb =>
      have ev := g.evalO h0
      rw [hb] at ev
      refine wp_cond (dr_bool ev) ?_
      cases b with
      | true => exact code_sound hmix nt p mp h1 G hG Fp st s a w Q (hv.1 rfl) ⟨A, β, g⟩ hK
      | false => exact code_sound hmix nt q mq h2 G hG Fq st s a w Q (hv.2 rfl) ⟨A, β, g⟩ hK
    · exact hv.elim
  | .block id c, m, hc, G, hG, hF, st, s, a, w, Q, hv, hs, hK => by
    simp only [cC, Option.bind_eq_bind, Option.bind_eq_some_iff, Option.pure_def, Option.some.injEq] at hc
    obtain ⟨mc, h1, rfl⟩ := hc
    rw [vc] at hv
    refine wp_block (code_sound hmix nt c mc h1 G hG (fun t ht => hF t ht) (.b id :: st) s a w _ hv hs (fun e s' a' w' hr hs' => ?_))
    cases e with
    | nrm => rw [rs] at hr; exact hK .nrm s' a' w' hr hs'
    | exit i =>
      rw [rs] at hr
      show (if i = id then Q .normal a' w' else Q (.exit i) a' w')
      by_cases h : i = id
      · rw [if_pos h] at hr ⊢; exact hK .nrm s' a' w' hr hs'
      · rw [if_neg h] at hr ⊢; exact hK (.exit i) s' a' w' hr hs'
    | ret => rw [rs] at hr; exact hK .ret s' a' w' hr hs'
  | .loop c, m, hc, G, hG, hF, st, s, a, w, Q, hv, hs, hK => by
    simp only [cC, Option.bind_eq_bind, Option.bind_eq_some_iff, Option.pure_def, Option.some.injEq] at hc
    obtain ⟨mc, h1, rfl⟩ := hc
    rw [vc] at hv
    obtain ⟨X, ups, ms, μ, Inv, x0, hx0, hf0, hr0⟩ := hv
    obtain ⟨A, β, g⟩ := hs
    let G' : Gh := { G with T := fun t d => G.T t d ∨ ((dedup (asg mc)).contains t = false ∧ d = (s.ρ t).keep) }
    have gG : GR G' s a w A β := ⟨g.size, g.defers, g.below, g.sub, g.up, g.low, g.slots, g.objs, g.inj, g.fresh, fun t d ht => by
      rcases ht with h | ⟨_, rfl⟩
      · exact g.keep t d h
      · exact keep_cr (g.slots t)⟩
    have hkeep : ∀ t, (dedup (asg mc)).contains t = false → G'.T t (s.ρ t).keep := fun t h => .inr ⟨h, rfl⟩
    have hF' : Free G' (asg mc) := by
      intro t ht
      have hd := mem_dedup _ _ ht
      refine ⟨(hF t hd).1, fun y hy => ?_⟩
      rcases hy with h | ⟨h, _⟩
      · exact (hF t hd).2 y h
      · have : (dedup (asg mc)).contains t = true := by simpa using hd
        rw [this] at h; cases h
    have back : ∀ e s' a' w', e ≠ Ex.nrm → rs P e st s' → SR G' s' a' w' → Q (toX e) a' w' := fun e s' a' w' _ hr ⟨A', β', g'⟩ => hK e s' a' w' hr ⟨A', β', g'.weaken rfl rfl rfl (fun t d h => .inl h)⟩
    refine wp_loop_n (fun n a w => ∃ x, Inv x ∧ μ x = n ∧ SR G' (s.head (dedup (asg mc)) (ups x) (ms x)) a w) (n := μ x0) (fun n a1 w1 hI => ?_) ⟨x0, hx0, rfl, A, β, gG.head rfl hf0 hkeep⟩
    obtain ⟨x, hx, rfl, hsx⟩ := hI
    refine code_sound hmix nt c mc h1 G' hG hF' _ _ a1 w1 _ (hr0 x hx) hsx (fun e s' a' w' hr hs' => ?_)
    cases e with
    | nrm =>
      rw [rs] at hr
      obtain ⟨hn, x', hx', hm, hfit⟩ := hr
      obtain ⟨A', β', g'⟩ := hs'
      exact ⟨μ x', hm, x', hx', rfl, A', β', (g'.trim hn).head rfl hfit hkeep⟩
    | exit i => rw [rs] at hr; exact back (.exit i) s' a' w' (by simp) hr hs'
    | ret => rw [rs] at hr; exact back .ret s' a' w' (by simp) hr hs'
  | .rangeFunc .., m, hc, _, _, _, _, _, _, _, _, _, _, _ => by simp [cC] at hc
  | .scope .., m, hc, _, _, _, _, _, _, _, _, _, _, _ => by simp [cC] at hc
  | .label .., m, hc, _, _, _, _, _, _, _, _, _, _, _ => by simp [cC] at hc
  | .goto .., m, hc, _, _, _, _, _, _, _, _, _, _, _ => by simp [cC] at hc
  | .refuse .., m, hc, _, _, _, _, _, _, _, _, _, _, _ => by simp [cC] at hc

/-- One result. -/
def resOne (a : Act) : ResultVar → Sem Value
  | .tmp t => pure (a.tmps.getD t undef)
  | .cell x t => do loadVar t (← asAddr (a.tmps.getD x undef))
theorem res_sound {R : D → Prop} : ∀ (rvs : List ResultVar) (rs : List RO) (acc : List D) (vacc : List Value), rvs.mapM (cR P) = some rs → GR G s a w A β → kRes s R rs acc → vacc.length = acc.length → (∀ i, i < acc.length → CR w (own s A β) (acc.getD i .junk) (vacc.getD i undef)) →
    ∃ vs ds, (rvs.mapM (resOne a)).run P w = .ok vs w ∧
      Fin R (resD ds) ∧ (vacc ++ vs).length = ds.length ∧ ∀ i, i < ds.length → CR w (own s A β) (ds.getD i .junk) ((vacc ++ vs).getD i undef)
  | [], rs, acc, vacc, h, g, hk, hl, hc => by
    simp at h; subst h
    exact ⟨[], acc, by simp, hk, by simpa using hl, by simpa using hc⟩
  | r :: rvs, rs, acc, vacc, h, g, hk, hl, hc => by
    simp only [List.mapM_cons, Option.bind_eq_bind, Option.pure_def, Option.bind_eq_some_iff] at h
    obtain ⟨ro, h1, rs', h2, h⟩ := h
    cases h
    have step : ∀ (d : D) (v : Value), CR w (own s A β) d v → kRes s R rs' (acc ++ [d]) →
        ((resOne a r).run P w = .ok v w) →
        ∃ vs ds, ((r :: rvs).mapM (resOne a)).run P w = .ok vs w ∧
          Fin R (resD ds) ∧ (vacc ++ vs).length = ds.length ∧ ∀ i, i < ds.length → CR w (own s A β) (ds.getD i .junk) ((vacc ++ vs).getD i undef) := by
      intro d v hd hk' hrun
      obtain ⟨vs, ds, r1, r2, r3, r4⟩ := res_sound rvs rs' (acc ++ [d]) (vacc ++ [v]) h2 g hk' (by simp [hl]) (fun i hi => by
        by_cases h : i < acc.length
        · have e1 : (acc ++ [d]).getD i .junk = acc.getD i .junk := by simp only [List.getD_eq_getElem?_getD]; rw [List.getElem?_append_left h]
          have e2 : (vacc ++ [v]).getD i undef = vacc.getD i undef := by simp only [List.getD_eq_getElem?_getD]; rw [List.getElem?_append_left (by omega)]
          rw [e1, e2]; exact hc i h
        · have : i = acc.length := by simp at hi; omega
          subst this
          have e1 : (acc ++ [d]).getD acc.length .junk = d := by simp [List.getD]
          have e2 : (vacc ++ [v]).getD acc.length undef = v := by rw [← hl]; simp [List.getD]
          rw [e1, e2]; exact hd)
      refine ⟨v :: vs, ds, ?_, r2, by simpa using r3, by simpa using r4⟩
      simp only [List.mapM_cons, Sem.run_bind, hrun, Result.andThen_ok, r1, Sem.run_pure]
    cases r with
    | tmp t =>
      simp only [cR, Option.some.injEq] at h1
      subst h1
      exact step _ _ (view_cr g (g.slots t)) hk rfl
    | cell x T =>
      simp only [cR, Option.bind_eq_bind, Option.bind_eq_some_iff] at h1
      obtain ⟨sz, hsz, h1⟩ := h1
      have cell : ∀ (n : Nat) (agg : Bool), ro = .cell x n agg → aggOf P T = some agg → (agg = true → sz = n) → ∃ vs ds, ((ResultVar.cell x T :: rvs).mapM (resOne a)).run P w = .ok vs w ∧
          Fin R (resD ds) ∧ (vacc ++ vs).length = ds.length ∧ ∀ i, i < ds.length → CR w (own s A β) (ds.getD i .junk) ((vacc ++ vs).getD i undef) := by
        intro n agg e hag hn
        subst e
        have hk' : kCell s n agg (fun x => kRes s R rs' (acc ++ [x])) (s.ρ x) := hk
        have ev := g.slots x
        unfold kCell at hk'
        split at hk'
        · next τ z i o hp =>
          rw [hp] at ev
          unfold kM at hk'
          split at hk'
          · next ob hM =>
            obtain ⟨⟨q1, q2, q3, q4, q5⟩, hk''⟩ := hk'
            obtain ⟨b, us, e1, hb, hcell, hr⟩ := ptr_cells g hM q1 q2 q3 q4 ev
            cases agg with
            | true =>
              have hn' := hn rfl
              subst hn'
              have hlen : (ob.es.getD i []).length = z := by
                generalize a.tmps.getD x undef = v at ev
                cases ev with
                | cl d x h' => cases h'
                | ptr τ sz' i0 o' b hN hb =>
                  rcases g.objs τ ob hN hM with ⟨_, h'⟩ | ⟨b', arr, T, hb', hh, hl, he, hr⟩
                  · rw [h'] at q2; simp at q2
                  · rw [he i q2, q1]
              have hl' : (((ob.es.getD i []).drop o).take sz).length = sz := by rw [List.length_take, List.length_drop, hlen]; omega
              have hload := run_loadCells (P := P) w ⟨b, i * z + o, none⟩ sz us (fun j hj => by rw [addr_add]; exact hcell j hj)
              have hdr : DR w A β s.N (.ag (((ob.es.getD i []).drop o).take sz)) (.agg ((List.range sz).map us).toArray) := by
                refine .ag _ _ (by simp only [List.size_toArray, List.length_map, List.length_range, hl']) fun j hj => ?_
                rw [hl'] at hj
                rw [getD_drop_take _ _ _ _ hj]
                have : ((List.range sz).map us).toArray.getD j undef = us j := by simp [hj]
                rw [this]; exact (hr j hj).1
              exact step _ _ (view_cr g hdr) hk'' (by simp only [resOne, Sem.run_bind, e1, asAddr, Sem.run_pure, Result.andThen_ok, loadVar, agg_run hag, if_true, szOf_spec hsz, hload])
            | false =>
              have hn1 := q5 rfl
              subst hn1
              have h0 := hcell 0 (by omega)
              exact step _ _ (view_cr g (hr 0 (by omega)).1) (by simp only [Bool.false_eq_true, if_false] at hk''; rw [Nat.add_zero]; exact hk'') (by rw [Nat.add_zero] at h0; simp only [resOne, Sem.run_bind, e1]; simp [asAddr, loadVar, agg_run hag, h0])
          · exact hk'.elim
        · exact hk'.elim
      split at h1
      · next hag => simp only [Option.pure_def, Option.some.injEq] at h1; exact cell sz true h1.symm hag (fun _ => rfl)
      · next hag => simp only [Option.pure_def, Option.some.injEq] at h1; exact cell 1 false h1.symm hag (fun h => by cases h)
      · cases h1

/-- A function's contract, out of its code's condition. -/
theorem spec_of_vc {f : FuncId} {fn : Func} {m : MC} {rs : List RO} {ds : List D} {R : D → Prop} (hmix : P.follows .mixedOrders = true) (hf : P.funcs[f]? = some fn) (hc : cF P fn = some (m, rs)) (hn : ds.length ≤ fn.ntmps)
    (hv : vc P m [.f (finQ rs R)] (S.init ds)) : Spec P f ds R := by
  intro w A vs low hsz hcr
  unfold cF at hc
  simp only [Option.bind_eq_bind, Option.bind_eq_some_iff] at hc
  obtain ⟨c, hbody, m', h1, rs', h2, hc⟩ := hc
  split at hc
  case isFalse => cases hc
  next hbound =>
  cases hc
  refine calls_of_wp hf hbody ?_
  let G : Gh := { w0 := w, A0 := A, nt := fn.ntmps, T := fun _ _ => False }
  have htm : ∀ t, (vs ++ Array.replicate (fn.ntmps - vs.size) undef).getD t undef = if t < ds.length then vs.getD t undef else undef := by
    intro t
    simp only [Array.getD_eq_getD_getElem?]
    by_cases h : t < ds.length
    · rw [if_pos h, Array.getElem?_append_left (by omega)]
    · rw [if_neg h, Array.getElem?_append_right (by omega)]
      simp only [Array.getElem?_replicate]
      split <;> rfl
  have g0 : GR G (S.init ds) { tmps := vs ++ Array.replicate (fn.ntmps - vs.size) undef, defers := [] } w A (fun _ => none) := by
    refine ⟨by simp [G]; omega, rfl, Below.refl _ _, fun _ h => h, fun _ h => .inl h, low, fun t => ?_, fun τ ob h => absurd h (Nat.not_lt_zero _), fun τ σ b h => absurd h (Nat.not_lt_zero _), fun τ b h => absurd h (Nat.not_lt_zero _), fun _ _ h => h.elim⟩
    rw [htm]
    show DR w A _ 0 (ds.getD t .junk) _
    by_cases h : t < ds.length
    · rw [if_pos h]; exact .cl _ _ (hcr t h)
    · rw [if_neg h]
      have : ds.getD t .junk = .junk := by simp [List.getD, List.getElem?_eq_none (Nat.le_of_not_lt h)]
      rw [this]; exact DR.junk
  refine code_sound hmix fn.ntmps c _ h1 G rfl ?_ _ _ _ _ _ hv ⟨A, _, g0⟩ (fun e s' a' w' hr hs' => ?_)
  · intro t ht
    refine ⟨?_, fun _ h => h⟩
    have := List.all_eq_true.1 hbound.2 t ht
    simpa using this
  · obtain ⟨A', β', g'⟩ := hs'
    have fin : kRes s' R rs [] → a'.defers = [] ∧ ∃ v, (results fn a'.tmps).run P w' = .ok v w' ∧ ∃ x d, Ending.returned v = .returned x ∧ R d ∧ Below w.heap.size w w' ∧ CR w' (fun b => A b ∨ (w.heap.size ≤ b ∧ b < w'.heap.size)) d x := by
      intro hk
      obtain ⟨vs', ds', r1, r2, r3, r4⟩ := res_sound fn.results.toList rs [] [] h2 g' hk rfl (fun i hi => by simp at hi)
      simp only [List.nil_append] at r3 r4
      obtain ⟨d', hle, hR⟩ := r2
      have hown : ∀ b, own s' A' β' b → A b ∨ (w.heap.size ≤ b ∧ b < w'.heap.size) := by
        intro b hb
        rcases hb with h | ⟨τ, h1, h2, h3⟩
        · exact g'.up b h
        · exact .inr ⟨(g'.fresh τ b h1 h2 h3).1, g'.blk h1 h2 h3⟩
      have hrun : (results fn a'.tmps).run P w' = .ok (if h : vs'.toArray.size = 1 then vs'.toArray[0] else .tuple vs'.toArray) w' := by
        have e : fn.results.mapM (resOne a') = List.toArray <$> fn.results.toList.mapM (resOne a') := Array.mapM_eq_mapM_toList
        have e0 : results fn a'.tmps = (do let vs ← fn.results.mapM (resOne a'); pure (if h : vs.size = 1 then vs[0] else .tuple vs)) := by
          unfold results
          congr 1
        have e3 : (do let vs ← fn.results.mapM (resOne a'); pure (if h : vs.size = 1 then vs[0] else Value.tuple vs) : Sem Value).run P w' = .ok (if h : vs'.toArray.size = 1 then vs'.toArray[0] else .tuple vs'.toArray) w' := by
          rw [Sem.run_bind, e, Sem.run_map, r1]
          rfl
        exact e0 ▸ e3
      refine ⟨g'.defers, _, hrun, _, d', rfl, hR, g'.below, ?_⟩
      have hcr' : CR w' (own s' A' β') (resD ds') (if h : vs'.toArray.size = 1 then vs'.toArray[0] else .tuple vs'.toArray) := by
        by_cases h : vs'.length = 1
        · rw [dif_pos (by simpa using h)]
          obtain ⟨v, rfl⟩ := List.length_eq_one_iff.1 h
          obtain ⟨d, rfl⟩ : ∃ d, ds' = [d] := List.length_eq_one_iff.1 (by rw [← r3]; exact h)
          have := r4 0 (by simp)
          simpa [resD] using this
        · rw [dif_neg (by simpa using h)]
          have e2 : resD ds' = .tu ds' := by
            match ds', r3 with
            | [], _ => rfl
            | [d], r3 => exact absurd r3 (by simpa using h)
            | d :: e :: r, _ => rfl
          rw [e2]
          refine .tu _ _ (by simpa using r3) fun i hi => ?_
          have := r4 i hi
          have hi' : i < vs'.length := by omega
          simpa [List.getD, hi'] using this
      exact (hle _ _ _ hcr').mono (fun _ _ => rfl) hown
    cases e with
    | nrm => rw [Go.Dm.rs] at hr; exact fin hr
    | ret => rw [Go.Dm.rs] at hr; exact fin hr
    | exit i => rw [Go.Dm.rs] at hr; exact hr.elim
end
end Go.Dm
