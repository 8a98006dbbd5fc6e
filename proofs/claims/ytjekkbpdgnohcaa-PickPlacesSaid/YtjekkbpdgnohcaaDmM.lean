/-
  A logic for Go functions over plain data, part M: code and functions.
-/
import Derived.Test.YtjekkbpdgnohcaaDmS
set_option linter.unusedSimpArgs false
set_option linter.unnecessarySimpa false
set_option linter.unusedVariables false
namespace Go.Dm
open Go.RowKit
section
variable {P : Program} {G : Gh} {s : S} {a : Act} {w : World} {A : Nat → Prop} {β : Nat → Option Nat} {γ : Nat → Option (Nat × List Nat)}
def onlyN (Q : Exit → Act → World → Prop) : Exit → Act → World → Prop
  | .normal, a, w => Q .normal a w
  | _, _, _ => False
theorem RegA.wpN {ops : Array Oper} {id : Nat} {draw : Bool} {Q : Exit → Act → World → Prop} {r : Option Nat} (hmix : P.follows .mixedOrders = true) (hnd : r = none ∨ plainC (.region id ops draw) = true)
    (h : RegA P ops draw (onlyN Q) a w) : (Code.region id ops draw).wpIn (FR r) 0 P Q a w := by
  refine wpIn_mono (RegA.wp hmix (hnd.imp (fun h => h) fun h o ho c e => ?_) (fun ⟨_, _, h⟩ => h) h) (fun e a w h => ?_)
  · unfold plainC at h
    have := List.all_eq_true.1 h o ho
    rw [e] at this; cases this
  · cases e <;> first | exact h | exact h.elim
theorem code_sound (hmix : P.follows .mixedOrders = true) (nt : Nat) : ∀ (c : Code) (m : MC), cC P nt c = some m → ∀ (r : Option Nat), (r = none ∨ plainC c = true) → ∀ (G : Gh), G.nt = nt → Free G (asg m) → ∀ (st : List Fr) (s : S) (a : Act) (w : World) (Q : Exit → Act → World → Prop), vc P m st s → SR G s a w → Kont P G st Q → c.wpIn (FR r) 0 P Q a w
  | .skip, m, hc, r, hro, G, hG, hF, st, s, a, w, Q, hv, hs, hK => by
    simp only [cC, Option.some.injEq] at hc; subst hc
    rw [vc] at hv
    exact wpIn_skip (hK .nrm s a w hv hs)
  | .exit id, m, hc, r, hro, G, hG, hF, st, s, a, w, Q, hv, hs, hK => by
    simp only [cC, Option.some.injEq] at hc; subst hc
    rw [vc] at hv
    exact wpIn_exit (hK (.exit id) s a w hv hs)
  | .ret, m, hc, r, hro, G, hG, hF, st, s, a, w, Q, hv, hs, hK => by
    simp only [cC, Option.some.injEq] at hc; subst hc
    rw [vc] at hv
    exact wpIn_ret (hK .ret s a w hv hs)
  | .region id ops draw, m, hc, r, hro, G, hG, hF, st, s, a, w, Q, hv, hs, hK => by
    have hc0 := hc
    simp only [cC, Option.bind_eq_bind, Option.bind_eq_some_iff] at hc
    obtain ⟨l0, h1, hc⟩ := hc
    have hm : (∃ q l, m = .reg q l) ∨ (draw = true ∧ m = .dreg (dedup (asgOps l0)) (tr1 P ops l0) (treeT ops (l0.map Op1.toP))) := by
      split at hc
      · next hdr =>
        split at hc
        · simp only [Option.pure_def, Option.some.injEq] at hc; exact .inl ⟨_, _, hc.symm⟩
        · split at hc
          · simp only [Option.pure_def, Option.some.injEq] at hc; exact .inl ⟨_, _, hc.symm⟩
          · split at hc
            · simp only [Option.pure_def, Option.some.injEq] at hc; exact .inl ⟨_, _, hc.symm⟩
            · split at hc
              · simp only [Option.pure_def, Option.some.injEq] at hc; exact .inl ⟨_, _, hc.symm⟩
              · simp only [Option.pure_def, Option.some.injEq] at hc; exact .inr ⟨hdr, hc.symm⟩
      · simp only [Option.pure_def, Option.some.injEq] at hc
        exact .inl ⟨0, l0, hc.symm⟩
    rcases hm with ⟨q, l, rfl⟩ | ⟨rfl, rfl⟩
    · rw [vc] at hv
      subst hG
      exact RegA.wpN hmix hro <| region_sound hmix hc0 hF ⟨q, l, rfl, hv⟩ hs (fun s' a' w' hk hs' => hK .nrm s' a' w' hk hs')
    · rw [vc] at hv
      subst hG
      have hF0 : Free G (asgOps l0) := fun t ht => hF t (mem_dedup _ _ ht)
      -- an order that ends in a cut
      have cut : ∀ tp : Bool, CutVC P (dedup (asgOps l0)) (trB P tp ops l0) (rs P .nrm st) s → RegA P ops true (onlyN Q) a w := by
        rintro tp ⟨s1, X, ups, ms, Inv, n, hgh, hn, hvt, hrest⟩
        obtain ⟨A0, β0, γ0, g0⟩ := hs
        obtain ⟨A, β, γ, g⟩ := hgh.sound g0
        have gG := g.loop (dedup (asgOps l0))
        have hF' : Free (G.loop s1 β (dedup (asgOps l0))) (asgOps l0) := by
          intro t ht
          have hd := mem_dedup _ _ ht
          refine ⟨(hF0 t ht).1, fun y hy => ?_⟩
          rcases hy with h | ⟨h, _⟩
          · exact (hF0 t ht).2 y h
          · have : (dedup (asgOps l0)).contains t = true := by simpa using hd
            rw [this] at h; cases h
        refine region_trB (G := G.loop s1 β (dedup (asgOps l0))) tp hmix h1 hF' hvt ⟨A, β, γ, gG⟩ (fun s' a' w' hk hs' => ?_)
        obtain ⟨s2, hg2, hn2, x', hx', hfit⟩ := hk
        obtain ⟨A', β', γ', g'⟩ := hs'
        obtain ⟨A1, β1, γ1, g1⟩ := hg2.sound g'
        have g2 := g1.trim hn2 (show s1.N ≤ n from hn)
        have hfx : ∀ τ, (τ < s1.N ∧ isFix (s1.M τ) = true) → τ < n ∧ β1 τ = β τ := fun τ hτ => ⟨Nat.lt_of_lt_of_le hτ.1 hn, (g2.hr.fixd τ (.inr hτ)).1⟩
        have g3 := g2.headN (n := n) rfl hfit hfx (fun t h => .inr ⟨h, rfl⟩)
        exact hK .nrm _ a' w' (hrest x' hx') ⟨A1, β1, γ1, GR.unloop g g3⟩
      have dir : ∀ tp : Bool, vcT P (trB P tp ops l0) (rs P .nrm st) s → RegA P ops true (onlyN Q) a w := fun tp h =>
        region_trB tp hmix h1 hF0 h hs (fun s' a' w' hk hs' => hK .nrm s' a' w' hk hs')
      refine RegA.wpN hmix hro ?_
      rcases hv with h | h | h | h
      · exact dir false h
      · exact dir true h
      · exact cut false h
      · exact cut true h
  | .seq x y, m, hc, r, hro, G, hG, hF, st, s, a, w, Q, hv, hs, hK => by
    simp only [cC, Option.bind_eq_bind, Option.bind_eq_some_iff, Option.pure_def, Option.some.injEq] at hc
    obtain ⟨mx, h1, my, h2, rfl⟩ := hc
    rw [vc] at hv
    have Fx : Free G (asg mx) := fun t ht => hF t (by simp [asg, ht])
    have Fy : Free G (asg my) := fun t ht => hF t (by simp [asg, ht])
    refine wpIn_seq (code_sound hmix nt x mx h1 r (hro.imp (fun h => h) fun h => by rw [plainC, Bool.and_eq_true] at h; exact h.1) G hG Fx (.s my :: st) s a w _ hv hs (fun e s' a' w' hr hs' => ?_))
    cases e with
    | nrm => rw [rs] at hr; exact code_sound hmix nt y my h2 r (hro.imp (fun h => h) fun h => by rw [plainC, Bool.and_eq_true] at h; exact h.2) G hG Fy st s' a' w' Q hr hs' hK
    | exit i => rw [rs] at hr; exact hK (.exit i) s' a' w' hr hs'
    | ret => rw [rs] at hr; exact hK .ret s' a' w' hr hs'
  | .cond x p q, m, hc, r, hro, G, hG, hF, st, s, a, w, Q, hv, hs, hK => by
    simp only [cC, Option.bind_eq_bind, Option.bind_eq_some_iff, Option.pure_def, Option.some.injEq] at hc
    obtain ⟨x', h0, mp, h1, mq, h2, rfl⟩ := hc
    rw [vc] at hv
    have Fp : Free G (asg mp) := fun t ht => hF t (by simp [asg, ht])
    have Fq : Free G (asg mq) := fun t ht => hF t (by simp [asg, ht])
    obtain ⟨A, β, γ, g⟩ := hs
    unfold kCond at hv
    split at hv
    · next b hb =>
      have ev := g.evalO h0
      rw [hb] at ev
      refine wpIn_cond (dr_bool ev) ?_
      cases b with
      | true => exact code_sound hmix nt p mp h1 r (hro.imp (fun h => h) fun h => by rw [plainC, Bool.and_eq_true] at h; exact h.1) G hG Fp st s a w Q (hv.1 rfl) ⟨A, β, γ, g⟩ hK
      | false => exact code_sound hmix nt q mq h2 r (hro.imp (fun h => h) fun h => by rw [plainC, Bool.and_eq_true] at h; exact h.2) G hG Fq st s a w Q (hv.2 rfl) ⟨A, β, γ, g⟩ hK
    · exact hv.elim
  | .block id c, m, hc, r, hro, G, hG, hF, st, s, a, w, Q, hv, hs, hK => by
    simp only [cC, Option.bind_eq_bind, Option.bind_eq_some_iff, Option.pure_def, Option.some.injEq] at hc
    obtain ⟨mc, h1, rfl⟩ := hc
    rw [vc] at hv
    refine wpIn_block (code_sound hmix nt c mc h1 r (hro.imp (fun h => h) fun h => by rw [plainC] at h; exact h) G hG (fun t ht => hF t ht) (.b id :: st) s a w _ hv hs (fun e s' a' w' hr hs' => ?_))
    cases e with
    | nrm => rw [rs] at hr; exact hK .nrm s' a' w' hr hs'
    | exit i =>
      rw [rs] at hr
      show (if i = id then Q .normal a' w' else Q (.exit i) a' w')
      by_cases h : i = id
      · rw [if_pos h] at hr ⊢; exact hK .nrm s' a' w' hr hs'
      · rw [if_neg h] at hr ⊢; exact hK (.exit i) s' a' w' hr hs'
    | ret => rw [rs] at hr; exact hK .ret s' a' w' hr hs'
  | .loop c, m, hc, r, hro, G, hG, hF, st, s0, a, w, Q, hv, hs, hK => by
    simp only [cC, Option.bind_eq_bind, Option.bind_eq_some_iff, Option.pure_def, Option.some.injEq] at hc
    obtain ⟨mc, h1, rfl⟩ := hc
    rw [vc] at hv
    obtain ⟨s, X, ups, ms, μ, Inv, x0, hgh, hx0, hf0, hr0⟩ := hv
    obtain ⟨A0, β0, γ0, g0⟩ := hs
    obtain ⟨A, β, γ, g⟩ := hgh.sound g0
    have gG := g.loop (dedup (asg mc))
    have hkeep : ∀ t, (dedup (asg mc)).contains t = false → (G.loop s β (dedup (asg mc))).T t ⟨β, fun τ => τ < s.N ∧ isFix (s.M τ) = true, (s.ρ t).keep s⟩ := fun t h => .inr ⟨h, rfl⟩
    have hF' : Free (G.loop s β (dedup (asg mc))) (asg mc) := by
      intro t ht
      have hd := mem_dedup _ _ ht
      refine ⟨(hF t hd).1, fun y hy => ?_⟩
      rcases hy with h | ⟨h, _⟩
      · exact (hF t hd).2 y h
      · have : (dedup (asg mc)).contains t = true := by simpa using hd
        rw [this] at h; cases h
    have hfix : ∀ {s' : S} {a' : Act} {w' : World} {A' : Nat → Prop} {β' : Nat → Option Nat} {γ' : Nat → Option (Nat × List Nat)}, GR (G.loop s β (dedup (asg mc))) s' a' w' A' β' γ' → ∀ τ, (τ < s.N ∧ isFix (s.M τ) = true) → τ < s.N ∧ β' τ = β τ := fun g' τ h => ⟨h.1, (g'.hr.fixd τ (.inr h)).1⟩
    have back : ∀ e s' a' w', rs P e st s' → SR (G.loop s β (dedup (asg mc))) s' a' w' → Q (toX e) a' w' := fun e s' a' w' hr ⟨A', β', γ', g'⟩ => hK e s' a' w' hr ⟨A', β', γ', g.unloop g'⟩
    refine wpIn_loop_n (fun n a w => ∃ x, Inv x ∧ μ x = n ∧ SR (G.loop s β (dedup (asg mc))) (s.head (dedup (asg mc)) (ups x) (ms x)) a w) (n := μ x0) (fun n a1 w1 hI => ?_) ⟨x0, hx0, rfl, A, β, γ, gG.head rfl hf0 (hfix gG) hkeep⟩
    obtain ⟨x, hx, rfl, hsx⟩ := hI
    refine code_sound hmix nt c mc h1 r (hro.imp (fun h => h) fun h => by rw [plainC] at h; exact h) (G.loop s β (dedup (asg mc))) hG hF' _ _ a1 w1 _ (hr0 x hx) hsx (fun e s' a' w' hr hs' => ?_)
    cases e with
    | nrm =>
      rw [rs] at hr
      obtain ⟨s1, hg1, hn, x', hx', hm, hfit⟩ := hr
      obtain ⟨A', β', γ', g'⟩ := hs'
      obtain ⟨A1, β1, γ1, g1⟩ := hg1.sound g'
      have g2 := g1.trim hn (Nat.le_refl _)
      exact ⟨μ x', hm, x', hx', rfl, A1, β1, γ1, g2.head rfl hfit (hfix g2) hkeep⟩
    | exit i => rw [rs] at hr; exact back (.exit i) s' a' w' hr hs'
    | ret => rw [rs] at hr; exact back .ret s' a' w' hr hs'
  | .rangeFunc g ps ca cc, m, hc, r, hro, G, hG, hF, st, s, a, w, Q, hv, hs, hK => by
    rw [cC] at hc
    split at hc
    · next hpl =>
      simp only [Bool.and_eq_true] at hpl
      simp only [Option.bind_eq_bind, Option.bind_eq_some_iff, Option.pure_def, Option.some.injEq] at hc
      obtain ⟨y, hy, ma, h1, mc, h2, rfl⟩ := hc
      rcases hro with rfl | h
      · exact rf_sound hy (fun r Ga hn hfr st s a w Q hv hs hK => code_sound hmix nt ca ma h1 (some r) (.inr hpl.1) Ga (hn.trans hG) hfr st s a w Q hv hs hK)
          (fun r Ga hn hfr st s a w Q hv hs hK => code_sound hmix nt cc mc h2 (some r) (.inr hpl.2) Ga (hn.trans hG) hfr st s a w Q hv hs hK) (fun t ht => hF t (by simpa [asg] using ht)) (fun t ht => mem_dedup _ _ ht) hv hs hK
      · rw [plainC] at h; cases h
    · simp only [Option.some.injEq] at hc; subst hc; rw [vc] at hv; exact hv.elim
  | .scope .., m, hc, _, _, _, _, _, st, s, a, w, Q, hv, _, _ => by simp only [cC, Option.some.injEq] at hc; subst hc; rw [vc] at hv; exact hv.elim
  | .label .., m, hc, _, _, _, _, _, st, s, a, w, Q, hv, _, _ => by simp only [cC, Option.some.injEq] at hc; subst hc; rw [vc] at hv; exact hv.elim
  | .goto .., m, hc, _, _, _, _, _, st, s, a, w, Q, hv, _, _ => by simp only [cC, Option.some.injEq] at hc; subst hc; rw [vc] at hv; exact hv.elim
  | .refuse .., m, hc, _, _, _, _, _, st, s, a, w, Q, hv, _, _ => by simp only [cC, Option.some.injEq] at hc; subst hc; rw [vc] at hv; exact hv.elim
def resOne (a : Act) : ResultVar → Sem Value
  | .tmp t => pure (a.tmps.getD t undef)
  | .cell x t => do loadVar t (← asAddr (a.tmps.getD x undef))
theorem res_sound {E : D → Prop} : ∀ (rvs : List ResultVar) (rs : List RO) (acc : List D) (vacc : List Value), rvs.mapM (cR P) = some rs → GR G s a w A β γ → kRes s E rs acc → vacc.length = acc.length → (∀ i, i < acc.length → DR w A β s.N (acc.getD i .junk) (vacc.getD i undef)) →
    ∃ vs ds, (rvs.mapM (resOne a)).run P w = .ok vs w ∧
      E (resD ds) ∧ (vacc ++ vs).length = ds.length ∧ ∀ i, i < ds.length → DR w A β s.N (ds.getD i .junk) ((vacc ++ vs).getD i undef)
  | [], rs, acc, vacc, h, g, hk, hl, hc => by
    simp at h; subst h
    exact ⟨[], acc, by simp, hk, by simpa using hl, by simpa using hc⟩
  | r :: rvs, rs, acc, vacc, h, g, hk, hl, hc => by
    simp only [List.mapM_cons, Option.bind_eq_bind, Option.pure_def, Option.bind_eq_some_iff] at h
    obtain ⟨ro, h1, rs', h2, h⟩ := h
    cases h
    have step : ∀ (d : D) (v : Value), DR w A β s.N d v → kRes s E rs' (acc ++ [d]) →
        ((resOne a r).run P w = .ok v w) →
        ∃ vs ds, ((r :: rvs).mapM (resOne a)).run P w = .ok vs w ∧
          E (resD ds) ∧ (vacc ++ vs).length = ds.length ∧ ∀ i, i < ds.length → DR w A β s.N (ds.getD i .junk) ((vacc ++ vs).getD i undef) := by
      intro d v hd hk' hrun
      obtain ⟨vs, ds, r1, r2, r3, r4⟩ := res_sound rvs rs' (acc ++ [d]) (vacc ++ [v]) h2 g hk' (by simp [hl]) (fun i hi => by
        by_cases h : i < acc.length
        · have e1 : (acc ++ [d]).getD i .junk = acc.getD i .junk := by simp only [List.getD_eq_getElem?_getD]; rw [List.getElem?_append_left h]
          have e2 : (vacc ++ [v]).getD i undef = vacc.getD i undef := by simp only [List.getD_eq_getElem?_getD]; rw [List.getElem?_append_left (by omega)]
          rw [e1, e2]; exact hc i h
        · have : i = acc.length := by simp at hi; omega
          subst this
          have e1 : (acc ++ [d]).getD acc.length .junk = d := by simp [List.getD]
          have e2 : (vacc ++ [v]).getD acc.length undef = v := by rw [← hl]; simp [List.getD]
          rw [e1, e2]; exact hd)
      refine ⟨v :: vs, ds, ?_, r2, by simpa using r3, by simpa using r4⟩
      simp only [List.mapM_cons, Sem.run_bind, hrun, Result.andThen_ok, r1, Sem.run_pure]
    cases r with
    | tmp t =>
      simp only [cR, Option.some.injEq] at h1
      subst h1
      exact step _ _ (g.slots t) hk rfl
    | cell x T =>
      simp only [cR, Option.bind_eq_bind, Option.bind_eq_some_iff] at h1
      obtain ⟨sz, hsz, h1⟩ := h1
      have cell : ∀ (n : Nat) (agg : Bool), ro = .cell x n agg → aggOf P T = some agg → (agg = true → sz = n) → ∃ vs ds, ((ResultVar.cell x T :: rvs).mapM (resOne a)).run P w = .ok vs w ∧
          E (resD ds) ∧ (vacc ++ vs).length = ds.length ∧ ∀ i, i < ds.length → DR w A β s.N (ds.getD i .junk) ((vacc ++ vs).getD i undef) := by
        intro n agg e hag hn
        subst e
        have hk' : kCell s n agg (fun x => kRes s E rs' (acc ++ [x])) (s.ρ x) := hk
        have ev := g.slots x
        unfold kCell at hk'
        split at hk'
        · next τ z i o hp =>
          rw [hp] at ev
          unfold kM at hk'
          split at hk'
          · next ob hM =>
            obtain ⟨⟨q1, q2, q3, q4, q6, q5⟩, hk''⟩ := hk'
            obtain ⟨b, us, hN, _, e1, hb, hcell, hr⟩ := ptr_cells g hM q6 q1 q2 q3 q4 ev
            have hor := g.hr.objs τ ob hN hM
            cases agg with
            | true =>
              have hn' := hn rfl
              subst hn'
              have hlen : (ob.es.getD i []).length = z := by rw [hor.1 i q2, q1]
              have hl' : (((ob.es.getD i []).drop o).take sz).length = sz := by rw [List.length_take, List.length_drop, hlen]; omega
              have hul : (uns ob.ow (((ob.es.getD i []).drop o).take sz)).length = sz := by cases ob.ow <;> simp only [uns_f, uns_t, List.length_map, hl']
              have hload := run_loadCells (P := P) w ⟨b, i * z + o, none⟩ sz us (fun j hj => by rw [addr_add]; exact hcell j hj)
              have hdr : DR w A β s.N (.ag (uns ob.ow (((ob.es.getD i []).drop o).take sz))) (.agg ((List.range sz).map us).toArray) := by
                refine .ag _ _ (by simp only [List.size_toArray, List.length_map, List.length_range, hul]) fun j hj => ?_
                rw [hul] at hj
                have e2 : ((List.range sz).map us).toArray.getD j undef = us j := by simp [hj]
                rw [e2]
                cases hw : ob.ow with
                | true =>
                  rw [uns_t, map_getD' D.un _ j D.junk D.junk (by rw [hl']; exact hj), getD_drop_take _ _ _ _ hj]
                  exact un_dr (hr j hj)
                | false =>
                  rw [uns_f, getD_drop_take _ _ _ _ hj]
                  exact (hr j hj).1 (hor.2.1 hw i (o + j) q2 (by omega))
              exact step _ _ hdr hk'' (by simp only [resOne, Sem.run_bind, e1, asAddr, Sem.run_pure, Result.andThen_ok, loadVar, agg_run hag, if_true, szOf_spec hsz, hload])
            | false =>
              have hn1 := q5 rfl
              subst hn1
              have h0 := hcell 0 (by omega)
              have hd := un_dr (hr 0 (by omega))
              rw [Nat.add_zero] at hd
              exact step _ _ hd (by simp only [Bool.false_eq_true, if_false] at hk''; exact hk'') (by rw [Nat.add_zero] at h0; simp only [resOne, Sem.run_bind, e1]; simp [asAddr, loadVar, agg_run hag, h0])
          · exact hk'.elim
        · exact hk'.elim
      split at h1
      · next hag => simp only [Option.pure_def, Option.some.injEq] at h1; exact cell sz true h1.symm hag (fun _ => rfl)
      · next hag => simp only [Option.pure_def, Option.some.injEq] at h1; exact cell 1 false h1.symm hag (fun h => by cases h)
      · cases h1
theorem results_sound {fn : Func} {rs : List RO} {E : D → Prop} (h2 : fn.results.toList.mapM (cR P) = some rs) (g : GR G s a w A β γ) (hk : kRes s E rs []) :
    ∃ v d, (results fn a.tmps).run P w = .ok v w ∧ E d ∧ DR w A β s.N d v := by
  obtain ⟨vs', ds', r1, r2, r3, r4⟩ := res_sound fn.results.toList rs [] [] h2 g hk rfl (fun i hi => by simp at hi)
  simp only [List.nil_append] at r3 r4
  have hrun : (results fn a.tmps).run P w = .ok (if h : vs'.toArray.size = 1 then vs'.toArray[0] else .tuple vs'.toArray) w := by
    have e : fn.results.mapM (resOne a) = List.toArray <$> fn.results.toList.mapM (resOne a) := Array.mapM_eq_mapM_toList
    have e0 : results fn a.tmps = (do let vs ← fn.results.mapM (resOne a); pure (if h : vs.size = 1 then vs[0] else .tuple vs)) := by
      unfold results
      congr 1
    have e3 : (do let vs ← fn.results.mapM (resOne a); pure (if h : vs.size = 1 then vs[0] else Value.tuple vs) : Sem Value).run P w = .ok (if h : vs'.toArray.size = 1 then vs'.toArray[0] else .tuple vs'.toArray) w := by
      rw [Sem.run_bind, e, Sem.run_map, r1]
      rfl
    exact e0 ▸ e3
  refine ⟨_, _, hrun, r2, ?_⟩
  by_cases h : vs'.length = 1
  · rw [dif_pos (by simpa using h)]
    obtain ⟨v, rfl⟩ := List.length_eq_one_iff.1 h
    obtain ⟨d, rfl⟩ : ∃ d, ds' = [d] := List.length_eq_one_iff.1 (by rw [← r3]; exact h)
    have := r4 0 (by simp)
    simpa [resD] using this
  · rw [dif_neg (by simpa using h)]
    have e2 : resD ds' = .tu ds' := by
      match ds', r3 with
      | [], _ => rfl
      | [d], r3 => exact absurd r3 (by simpa using h)
      | d :: e :: r, _ => rfl
    rw [e2]
    refine .tu _ _ (by simpa using r3) fun i hi => ?_
    have := r4 i hi
    have hi' : i < vs'.length := by omega
    simpa [List.getD, hi'] using this
theorem leaves_gr {fn : Func} {tmps : Array Value} {R : Ending → World → Prop} (hGz : G.z = []) (h : ∀ a w, a.tmps = tmps → a.defers = [] → GR G s a w A β γ → ∃ v, (results fn tmps).run P w = .ok v w ∧ R (.returned v) w) :
    ∀ (w : World) (a : Act), a.tmps = tmps → GR G s a w A β γ → LeavesInM Fence.wide 0 P fn tmps R a.defers .returning w := by
  have key : ∀ (Z : List Nat) (w : World) (a : Act), a.tmps = tmps → a.defers = Z.map mkD → GR G s a w A β γ → LeavesInM Fence.wide 0 P fn tmps R (Z.map mkD) .returning w := by
    intro Z
    induction Z with
    | nil => intro w a ht hd g; exact h a w ht hd g
    | cons d Z ih =>
      intro w a ht hd g
      obtain ⟨⟨Z', hZ1, hZ2, hZ3, hZ4⟩, _⟩ := g.defers
      have e : Z' = d :: Z := by
        have : Z'.map mkD = (d :: Z).map mkD := hZ1.symm.trans hd
        exact (List.map_inj_right (fun x y h => mkD_inj h)).1 this
      subst e
      obtain ⟨_, hA, hdw⟩ := hZ4 (d, defO) (by simp)
      have hnd := List.nodup_cons.1 hZ2
      refine ⟨by simp, .inl ⟨d, _, rfl, run_takeDeferred hdw, ?_⟩⟩
      refine ih _ { a with defers := Z.map mkD } ht rfl ?_
      have := g.putRec (o := .deferred none) (a' := { a with defers := Z.map mkD }) (z' := []) rfl hdw rfl (shp_putD hdw) hA (.inl (hZ3 d (by simp))) ⟨⟨Z, rfl, hnd.2, fun x hx => hZ3 x (by simp [hx]), Wch.put (fun p hp => hZ4 p (by
        rw [List.map_cons]; exact List.mem_cons_of_mem _ hp)) (fun p hp e => by
          obtain ⟨x, hx, rfl⟩ := List.mem_map.1 hp
          have e2 : x = d := e
          exact hnd.1 (e2 ▸ hx))⟩, fun _ h => (by cases h)⟩
      rw [← hGz] at this
      exact this
  intro w a ht g
  obtain ⟨⟨Z, hZ1, _⟩, _⟩ := g.defers
  rw [hZ1]; exact key Z w a ht hZ1 g
theorem run_sound {f : FuncId} {fn : Func} {m : MC} {rs : List RO} {E : S → D → Prop} {F : Ex → S → Prop} (hF : ∀ i s, ¬ F (.exit i) s) (hE : ∀ s, F .nrm s → kRes s (E s) rs []) (hE' : ∀ s, F .ret s → kRes s (E s) rs []) (hmix : P.follows .mixedOrders = true) (hf : P.funcs[f]? = some fn) (hc : cF P fn = some (m, rs))
    {vs : Array Value} {s0 : S} (hv : vc P m [.f F] s0) (hn : vs.size ≤ fn.ntmps) {Gg : Gw} (H : HR Gg w A β γ s0.N s0.M) (hs : ∀ t, DR w A β s0.N (s0.ρ t) (if t < vs.size then vs.getD t undef else undef)) :
    Calls P f vs w fun e w' => ∃ x d s' A' β' γ', e = .returned x ∧ E s' d ∧ HR Gg w' A' β' γ' s'.N s'.M ∧ DR w' A' β' s'.N d x ∧ ∃ a', GR ⟨Gg, fn.ntmps, fun _ _ => False, []⟩ s' a' w' A' β' γ' := by
  unfold cF at hc
  simp only [Option.bind_eq_bind, Option.bind_eq_some_iff] at hc
  obtain ⟨c, hbody, m', h1, rs', h2, hc⟩ := hc
  split at hc
  case isFalse => cases hc
  next hbound =>
  cases hc
  refine callsIn_wide.1 (callsIn_of_wp_marks (n := 0) hf hbody trivial ?_)
  let G : Gh := ⟨Gg, fn.ntmps, fun _ _ => False, []⟩
  have htm : ∀ t, (vs ++ Array.replicate (fn.ntmps - vs.size) undef).getD t undef = if t < vs.size then vs.getD t undef else undef := by
    intro t
    simp only [Array.getD_eq_getD_getElem?]
    by_cases h : t < vs.size
    · rw [if_pos h, Array.getElem?_append_left (by omega)]
    · rw [if_neg h, Array.getElem?_append_right (by omega)]
      simp only [Array.getElem?_replicate]
      split <;> rfl
  have g0 : GR G s0 { tmps := vs ++ Array.replicate (fn.ntmps - vs.size) undef, defers := [] } w A β γ :=
    ⟨by simp [G]; omega, ⟨⟨[], rfl, List.nodup_nil, fun _ h => (by cases h), fun _ h => (by cases h)⟩, fun _ h => (by cases h)⟩, H, fun t => by rw [htm]; exact hs t, fun _ _ h => h.elim⟩
  refine code_sound hmix fn.ntmps c _ h1 none (.inl rfl) G rfl ?_ _ _ _ _ _ hv ⟨A, β, γ, g0⟩ (fun e s' a' w' hr hs' => ?_)
  · intro t ht
    refine ⟨?_, fun _ h => h⟩
    have := List.all_eq_true.1 hbound.2.2 t ht
    simpa using this
  · obtain ⟨A', β', γ', g'⟩ := hs'
    have fin : kRes s' (E s') rs [] → LeavesInM Fence.wide 0 P fn a'.tmps (fun e w' => ∃ x d s' A' β' γ', e = .returned x ∧ E s' d ∧ HR Gg w' A' β' γ' s'.N s'.M ∧ DR w' A' β' s'.N d x ∧ ∃ a', GR ⟨Gg, fn.ntmps, fun _ _ => False, []⟩ s' a' w' A' β' γ') a'.defers .returning w' := by
      intro hk
      refine leaves_gr rfl (fun a2 w2 e1 e2 g2 => ?_) w' a' rfl g'
      obtain ⟨v, d, r1, r2, r3⟩ := results_sound h2 g2 hk
      exact ⟨v, by rw [← e1]; exact r1, v, d, s', A', β', γ', rfl, r2, g2.hr, r3, a2, g2⟩
    cases e with
    | nrm => rw [Go.Dm.rs] at hr; exact fin (hE s' hr)
    | ret => rw [Go.Dm.rs] at hr; exact fin (hE' s' hr)
    | exit i => rw [Go.Dm.rs] at hr; exact (hF i s' hr).elim
theorem fn_ok {f : FuncId} {fn : Func} {m : MC} {rs : List RO} (hf : P.funcs[f]? = some fn) (hc : cF P fn = some (m, rs)) : FnOk P f := by
  unfold cF at hc
  simp only [Option.bind_eq_bind, Option.bind_eq_some_iff] at hc
  obtain ⟨c, hbody, m', h1, rs', h2, hc⟩ := hc
  split at hc
  case isFalse => cases hc
  next hbound => exact ⟨fn, hf, by rw [hbody]; rfl, hbound.1⟩
theorem spec_of_vc {f : FuncId} {fn : Func} {m : MC} {rs : List RO} {ds : List D} {R : D → Prop} (hmix : P.follows .mixedOrders = true) (hf : P.funcs[f]? = some fn) (hc : cF P fn = some (m, rs)) (hn : ds.length ≤ fn.ntmps)
    (hv : vc P m [.f (finQ rs R)] (S.init ds)) : Spec P f ds R := by
  refine ⟨fn_ok hf hc, fun w A vs low hsz hcr => ?_⟩
  have H : HR { w0 := w, A0 := A, O0 := fun _ => False, n0 := 0, β0 := fun _ => none, F := fun _ => False } w A (fun _ => none) (fun _ => none) (S.init ds).N (S.init ds).M :=
    ⟨Bel.refl _ _, fun _ h => h, fun _ h => .inl h, low, fun τ ob h => absurd h (Nat.not_lt_zero _), fun b τ π h => (by cases h), fun τ b h => absurd h (Nat.not_lt_zero _), Nat.le_refl _, fun _ h => h.elim, fun _ h => h.elim⟩
  refine (run_sound (E := FinC R) (fun i s h => h) (fun s h => h) (fun s h => h) hmix hf hc hv (by omega) H (fun t => ?_)).mono ?_
  · show DR w A _ 0 (ds.getD t .junk) _
    by_cases h : t < ds.length
    · rw [if_pos (by omega)]; exact .cl _ _ (hcr t h)
    · rw [if_neg (by omega)]
      have : ds.getD t .junk = .junk := by simp [List.getD, List.getElem?_eq_none (Nat.le_of_not_lt h)]
      rw [this]; exact DR.junk
  · rintro e w' ⟨x, d, s', A', β', γ', rfl, hE, hH, hdr, a', g'⟩
    obtain ⟨s2, f2, hgh, d', hle, hR⟩ := hE
    obtain ⟨A2, β2, γ2, g2, k2⟩ := hgh.sound g'
    refine ⟨x, d', rfl, hR, g2.hr.below.below (fun _ h => h), (hle _ _ _ (view_cr g2 (k2 _ _ hdr))).mono (fun _ _ => rfl) (fun b hb => ?_)⟩
    rcases hb with h | ⟨τ, π, h1, h2, h3⟩
    · rcases g2.hr.up b h with h' | h' | h'
      · exact .inl h'
      · exact h'.elim
      · exact .inr ⟨h', g2.hr.low b h⟩
    · obtain ⟨q1, q2, q3⟩ := g2.hr.own b τ π h1 h2 h3
      rcases q3 with h' | h'
      · exact .inr ⟨h', q1⟩
      · exact h'.elim
theorem specH_of_vc {f : FuncId} {fn : Func} {m : MC} {rs : List RO} {ds : List D} {obs : List Ob} {R : D → List (Option Ob) → Prop} (hmix : P.follows .mixedOrders = true) (hf : P.funcs[f]? = some fn) (hc : cF P fn = some (m, rs)) (hn : ds.length ≤ fn.ntmps)
    (hv : vc P m [.f (finH obs.length rs R)] (S.initH ds obs)) : SpecH P f ds obs R := by
  refine ⟨fn_ok hf hc, fun w A β γ vs H hsz hcr => ?_⟩
  refine (run_sound (E := FinH obs.length R) (fun i s h => h) (fun s h => h) (fun s h => h) hmix hf hc hv (by omega) H (fun t => ?_)).mono ?_
  · show DR w A _ obs.length (ds.getD t .junk) _
    by_cases h : t < ds.length
    · rw [if_pos (by omega)]; exact hcr t h
    · rw [if_neg (by omega)]
      have : ds.getD t .junk = .junk := by simp [List.getD, List.getElem?_eq_none (Nat.le_of_not_lt h)]
      rw [this]; exact DR.junk
  · rintro e w' ⟨x, d, s', A', β', γ', rfl, hE, hH, hdr, a', g'⟩
    obtain ⟨s2, f2, l, hgh, hl1, hl2, hl3, hR⟩ := hE
    obtain ⟨A2, β2, γ2, g2, k2⟩ := hgh.sound g'
    have g3 := g2.trim hl2 hl1
    exact ⟨x, _, l, A2, β2, γ2, rfl, hR, g3.hr.sub_ hl3, nf_trim.dr (fun _ _ => rfl) (fun _ h => h) (Shp.refl _).f (k2 _ _ hdr)⟩
end
end Go.Dm
