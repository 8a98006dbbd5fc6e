/-
  A logic for Go functions over plain data, part N: regions that draw their order: one walk, the reading operations as early as they may come, serves every order.
-/
import Derived.Test.YtinanpbhbafhcaaDmA
set_option linter.unusedSimpArgs false
set_option linter.unusedVariables false
namespace Go.Dm
open Go.RowKit

/-- No block that is there turns. -/
def Same (w w' : World) : Prop := ∀ b, b < w.heap.size → w'.heap[b]? = w.heap[b]?
theorem Same.refl (w : World) : Same w w := fun _ _ => rfl
/-- What an operation does: it yields a value, or nothing, or calls. -/
def Eff (P : Program) (o : Oper) (a : Act) (w : World) (N : Value → World → Prop) : Prop :=
  match (execOp a.eval o).run P w with
  | .ok (.value u) w' => N u w'
  | .ok .skip w' => N undef w'
  | .ok (.enter f args) w' => Calls P f args w' fun e w'' => ∃ u, e = .returned u ∧ N u w''
  | _ => False
section
variable {P : Program} {ops : Array Oper} {o : Oper} {a : Act} {w : World}
theorem Eff.mono {N N' : Value → World → Prop} (h : Eff P o a w N) (hn : ∀ u w', N u w' → N' u w') : Eff P o a w N' := by
  unfold Eff at *
  generalize (execOp a.eval o).run P w = r at *
  cases r with
  | ok n w' =>
    cases n with
    | value u => exact hn _ _ h
    | skip => exact hn _ _ h
    | enter f args => exact h.mono fun e w'' ⟨u, e1, h⟩ => ⟨u, e1, hn _ _ h⟩
    | _ => exact h.elim
  | halt x w' => exact h.elim
theorem eff_wp {next : Act → World → Prop} {Q : Exit → Act → World → Prop} (h : Eff P o a w (fun u w' => next (a.put o.dst u) w')) : o.wp P a w next Q := by
  unfold Eff at h
  unfold Oper.wp
  generalize (execOp a.eval o).run P w = r at *
  cases r with
  | ok n w' =>
    cases n with
    | value u => exact h
    | skip => exact h
    | enter f args =>
      rw [Oper.upon_enter]
      refine h.mono ?_
      rintro e w'' ⟨u, rfl, h⟩
      exact h
    | _ => exact h.elim
  | halt x w' => exact h.elim
theorem Eff.congr {a' : Act} {N : Value → World → Prop} (he : execOp a'.eval o = execOp a.eval o) (h : Eff P o a w N) : Eff P o a' w N := by
  unfold Eff at *; rw [he]; exact h

/-- A value, in every later world. -/
def Yld (P : Program) (ld : Bool) (o : Oper) (a : Act) (w : World) (v : Value) : Prop := ∀ w', (ld = true → Same w w') → (execOp a.eval o).run P w' = .ok (.value v) w'

variable {Q : Exit → Act → World → Prop} {pu ld gr : Nat → Bool}
def eOp (P : Program) (ops : Array Oper) (pu ld gr : Nat → Bool) (i : Nat) (K : Act → World → Prop) (a : Act) (w : World) : Prop :=
  match ops[i]? with
  | none => False
  | some o =>
    if Region.wanted o (yielded ops a.tmps) then
      if pu i then ∃ v, Yld P (ld i) o a w v ∧ K (a.put o.dst v) w
      else Eff P o a w fun u w' => K (a.put o.dst u) w' ∧ (gr i = true → Same w w')
    else K (a.put o.dst undef) w
def EW (P : Program) (ops : Array Oper) (pu ld gr : Nat → Bool) (Q : Exit → Act → World → Prop) : List Nat → Act → World → Prop
  | [], a, w => Q .normal a w
  | i :: r, a, w => eOp P ops pu ld gr i (EW P ops pu ld gr Q r) a w

theorem Same.trans' {w1 w2 w3 : World} (h : Same w1 w2) (k : Same w2 w3) : Same w1 w3 := fun b hb => by
  have h1 := h b hb
  have : b < w2.heap.size := by
    rcases Nat.lt_or_ge b w2.heap.size with h' | h'
    · exact h'
    · rw [Array.getElem?_eq_none h', Array.getElem?_eq_getElem hb] at h1; cases h1
  exact (k b this).trans h1

/-- An operation ahead of which only such stand that read and are apart. -/
theorem EW.front (hsel : ∀ (j : Nat) (o : Oper) cs b, ops[j]? = some o → o.op ≠ .select cs b) {i : Nat} {oi : Oper} (hi : ops[i]? = some oi) {post : List Nat} : ∀ (pre : List Nat) (a : Act) (w : World), (∀ j, j ∈ pre → pu j = true) → (∀ j oj, j ∈ pre → ops[j]? = some oj → oj.apart ops oi = true) →
    (pu i = false → gr i = false → ∀ j, j ∈ pre → ld j = false) → EW P ops pu ld gr Q (pre ++ i :: post) a w → eOp P ops pu ld gr i (EW P ops pu ld gr Q (pre ++ post)) a w
  | [], a, w, _, _, _, h => h
  | j :: pre, a, w, h1, h2, h3, h => by
    have ih := EW.front hsel hi (post := post) pre
    have hj : pu j = true := h1 j (by simp)
    have h' : eOp P ops pu ld gr j (EW P ops pu ld gr Q (pre ++ i :: post)) a w := h
    unfold eOp at h'
    cases hoj : ops[j]? with
    | none => rw [hoj] at h'; exact h'.elim
    | some oj =>
      rw [hoj] at h'
      simp only [hj, if_true] at h'
      have hap := h2 j oj (by simp) hoj
      obtain ⟨p1, p2, p3⟩ := Oper.apart_spec hap
      have ih' := fun a w => ih a w (fun k hk => h1 k (by simp [hk])) (fun k ok hk => h2 k ok (by simp [hk])) (fun q1 q2 k hk => h3 q1 q2 k (by simp [hk]))
      have exi : ∀ (v : Value), execOp (a.put oj.dst v).eval oi = execOp a.eval oi := fun v => execOp_put oi (fun cs b => hsel i oi cs b hi) a oj.dst v p1
      have wai : ∀ (v : Value), Region.wanted oi (yielded ops (a.put oj.dst v).tmps) = Region.wanted oi (yielded ops a.tmps) := fun v => wanted_put oi a oj.dst v p1
      have exj : ∀ (u : Value), execOp (a.put oi.dst u).eval oj = execOp a.eval oj := fun u => execOp_put oj (fun cs b => hsel j oj cs b hoj) a oi.dst u p3
      have waj : ∀ (u : Value), Region.wanted oj (yielded ops (a.put oi.dst u).tmps) = Region.wanted oj (yielded ops a.tmps) := fun u => wanted_put oj a oi.dst u p3
      have com : ∀ (v u : Value), (a.put oj.dst v).put oi.dst u = (a.put oi.dst u).put oj.dst v := fun v u => Act.put_comm a v u p2
      by_cases hw : Region.wanted oj (yielded ops a.tmps) = true
      · rw [if_pos hw] at h'
        obtain ⟨v, hy, hk⟩ := h'
        have hk2 := ih' _ _ hk
        unfold eOp at hk2 ⊢
        rw [hi] at hk2 ⊢
        simp only [wai] at hk2
        have back : ∀ (u : Value) (w' : World), (ld j = true → Same w w') → EW P ops pu ld gr Q (pre ++ post) ((a.put oj.dst v).put oi.dst u) w' → EW P ops pu ld gr Q (j :: (pre ++ post)) (a.put oi.dst u) w' := by
          intro u w' hs hK
          show eOp P ops pu ld gr j (EW P ops pu ld gr Q (pre ++ post)) (a.put oi.dst u) w'
          unfold eOp
          rw [hoj]
          simp only [waj, hw, hj, if_true]
          refine ⟨v, fun w'' hs2 => ?_, ?_⟩
          · rw [exj]; exact hy w'' (fun hl => (hs hl).trans' (hs2 hl))
          · rw [← com]; exact hK
        by_cases hwi : Region.wanted oi (yielded ops a.tmps) = true
        · simp only [hwi, if_true] at hk2 ⊢
          cases hpi : pu i with
          | true =>
            simp only [hpi, if_true] at hk2 ⊢
            obtain ⟨u, hu, hK⟩ := hk2
            refine ⟨u, fun w' hs => ?_, back u w (fun _ => Same.refl w) hK⟩
            have := hu w' hs
            rwa [exi] at this
          | false =>
            simp only [hpi, Bool.false_eq_true, if_false] at hk2 ⊢
            refine (hk2.congr (exi v).symm).mono fun u w' ⟨hK, hg⟩ => ⟨back u w' (fun hl => ?_) hK, hg⟩
            cases hg' : gr i with
            | true => exact hg hg'
            | false => have := h3 hpi hg' j (by simp); rw [this] at hl; cases hl
        · simp only [hwi] at hk2 ⊢
          exact back undef w (fun _ => Same.refl w) hk2
      · rw [if_neg hw] at h'
        have hk2 := ih' _ _ h'
        unfold eOp at hk2 ⊢
        rw [hi] at hk2 ⊢
        simp only [wai] at hk2
        have back : ∀ (u : Value) (w' : World), EW P ops pu ld gr Q (pre ++ post) ((a.put oj.dst undef).put oi.dst u) w' → EW P ops pu ld gr Q (j :: (pre ++ post)) (a.put oi.dst u) w' := by
          intro u w' hK
          show eOp P ops pu ld gr j (EW P ops pu ld gr Q (pre ++ post)) (a.put oi.dst u) w'
          unfold eOp
          rw [hoj]
          simp only [waj]
          rw [if_neg hw, ← com]; exact hK
        by_cases hwi : Region.wanted oi (yielded ops a.tmps) = true
        · simp only [hwi, if_true] at hk2 ⊢
          cases hpi : pu i with
          | true =>
            simp only [hpi, if_true] at hk2 ⊢
            obtain ⟨u, hu, hK⟩ := hk2
            refine ⟨u, fun w' hs => ?_, back u w hK⟩
            have := hu w' hs
            rwa [exi] at this
          | false =>
            simp only [hpi, Bool.false_eq_true, if_false] at hk2 ⊢
            exact (hk2.congr (exi undef).symm).mono fun u w' ⟨hK, hg⟩ => ⟨back u w' hK, hg⟩
        · simp only [hwi] at hk2 ⊢
          exact back undef w hk2

theorem wpOp_of_eOp {i : Nat} {K K' : Act → World → Prop} (hk : ∀ a w, K a w → K' a w) (h : eOp P ops pu ld gr i K a w) : wpOp P ops Q i K' a w := by
  unfold eOp at h
  unfold wpOp
  split
  · next ho => rw [ho] at h; exact h.elim
  · next o ho =>
    rw [ho] at h
    simp only at h
    split
    · next hw =>
      rw [if_pos hw] at h
      left
      split at h
      · obtain ⟨v, hy, hK⟩ := h
        have := hy w (fun _ => Same.refl w)
        exact eff_wp (by unfold Eff; rw [this]; exact hk _ _ hK)
      · exact eff_wp (h.mono fun u w' h => hk _ _ h.1)
    · next hw => rw [if_neg hw] at h; exact hk _ _ h

/-- j waits for i. -/
def wt (ops : Array Oper) (j i : Nat) : Bool :=
  match ops[j]? with
  | some oj => oj.after.any fun e => Region.binds .any e && e.on == i
  | none => false
theorem wt_spec {j i : Nat} {oj : Oper} (hj : ops[j]? = some oj) : wt ops j i = true ↔ ∃ e, e ∈ oj.after ∧ Region.binds .any e = true ∧ e.on = i := by
  unfold wt
  rw [hj]
  simp only [Array.any_eq_true', Bool.and_eq_true, beq_iff_eq]
def inT (T : List (List Nat)) (i j : Nat) : Bool := (T.getD i []).contains j
/-- What stands ahead of what. -/
def okR (ops : Array Oper) (pu ld gr : Nat → Bool) (T : List (List Nat)) (j i : Nat) : Bool :=
  (wt ops i j || (match ops[j]?, ops[i]? with | some oj, some oi => oj.apart ops oi | _, _ => false)) && (pu j || inT T i j) && (pu i || gr i || !ld j || inT T i j) && !wt ops j i
def pairB (R : Nat → Nat → Bool) : List Nat → Bool
  | [] => true
  | j :: r => r.all (fun i => R j i) && pairB R r
def eagerB (ops : Array Oper) (pu ld gr : Nat → Bool) (E : List Nat) (T : List (List Nat)) : Bool :=
  Region.noSelect ops && E.all (fun i => decide (i < ops.size)) && (List.range ops.size).all (fun i => E.contains i) && pairB (fun j i => j != i && okR ops pu ld gr T j i) E &&
  (List.range ops.size).all (fun i => !wt ops i i && (T.getD i []).all fun j => wt ops i j || (T.getD i []).any fun k => wt ops i k && decide (k < i) && inT T k j) &&
  ops.all (fun o => o.after.all fun e => !Region.binds .any e || decide (e.on < ops.size))

theorem pairB_spec {R : Nat → Nat → Bool} : ∀ {l : List Nat}, pairB R l = true → l.Pairwise (fun j i => R j i = true)
  | [], _ => List.Pairwise.nil
  | j :: r, h => by
    simp only [pairB, Bool.and_eq_true, List.all_eq_true] at h
    exact List.Pairwise.cons h.1 (pairB_spec h.2)

def Rdy (ops : Array Oper) (listed : Array Bool) (i : Nat) : Prop := ∀ k, wt ops i k = true → listed.getD k false = true
structure Closed (ops : Array Oper) (listed : Array Bool) : Prop where
  size : listed.size = ops.size
  rdy : ∀ k, listed.getD k false = true → Rdy ops listed k
theorem dep_listed {T : List (List Nat)} {listed : Array Bool} (hT : ∀ i, i < ops.size → ∀ j, inT T i j = true → wt ops i j = true ∨ ∃ k, wt ops i k = true ∧ k < i ∧ inT T k j = true) (hc : Closed ops listed) :
    ∀ i, i < ops.size → Rdy ops listed i → ∀ j, inT T i j = true → listed.getD j false = true := by
  intro i
  induction i using Nat.strongRecOn with
  | _ i ih =>
    intro hi hr j hj
    rcases hT i hi j hj with h | ⟨k, h1, h2, h3⟩
    · exact hr j h
    · have hk := hr k h1
      exact ih k h2 (by omega) (hc.rdy k hk) j h3

theorem any_of_EW {E : List Nat} {T : List (List Nat)} (hB : eagerB ops pu ld gr E T = true) : ∀ (fuel : Nat) (listed : Array Bool) (a : Act) (w : World) (l : List Nat), l.Sublist E → (∀ i, i < ops.size → (i ∈ l ↔ listed.getD i true = false)) → Closed ops listed → l.length ≤ fuel →
    EW P ops pu ld gr Q l a w → wpAny P .any ops Q fuel listed a w := by
  simp only [eagerB, Bool.and_eq_true] at hB
  obtain ⟨⟨⟨⟨⟨hsel0, hE⟩, hall⟩, hpair⟩, hT0⟩, hon⟩ := hB
  have hsel := fun (j : Nat) (o : Oper) cs b => Region.noSelect_spec hsel0 j o cs b
  have hPw := pairB_spec hpair
  have hElt : ∀ i, i ∈ E → i < ops.size := fun i hi => by simpa using List.all_eq_true.1 hE i hi
  have hself : ∀ i, i < ops.size → wt ops i i = false := fun i hi => by
    have := List.all_eq_true.1 hT0 i (List.mem_range.2 hi)
    simp only [Bool.and_eq_true, Bool.not_eq_true'] at this
    exact this.1
  have hT : ∀ i, i < ops.size → ∀ j, inT T i j = true → wt ops i j = true ∨ ∃ k, wt ops i k = true ∧ k < i ∧ inT T k j = true := by
    intro i hi j hj
    have := List.all_eq_true.1 hT0 i (List.mem_range.2 hi)
    simp only [Bool.and_eq_true] at this
    have h1 := List.all_eq_true.1 this.2 j (by simpa [inT] using hj)
    simp only [Bool.or_eq_true, List.any_eq_true, Bool.and_eq_true, decide_eq_true_eq] at h1
    rcases h1 with h | ⟨k, _, ⟨h1, h2⟩, h3⟩
    · exact .inl h
    · exact .inr ⟨k, h1, h2, h3⟩
  have honlt : ∀ i k, wt ops i k = true → k < ops.size := by
    intro i k h
    unfold wt at h
    split at h
    · next oi hi =>
      obtain ⟨e, he, hb⟩ := Array.any_eq_true'.1 h
      simp only [Bool.and_eq_true, beq_iff_eq] at hb
      have h1 := Array.all_eq_true_iff_forall_mem.1 hon oi (Array.mem_of_getElem? hi)
      have h2 := Array.all_eq_true_iff_forall_mem.1 h1 e he
      simp only [hb.1, Bool.not_true, Bool.false_or, decide_eq_true_eq] at h2
      rw [← hb.2]; exact h2
    · cases h
  intro fuel
  induction fuel with
  | zero =>
    intro listed a w l hsub hl hc hf hew
    have : l = [] := List.eq_nil_of_length_eq_zero (by omega)
    subst this
    refine ⟨?_, hew⟩
    rw [List.eq_nil_iff_forall_not_mem]
    intro i hi
    obtain ⟨h1, o, ho, _⟩ := mem_ready.1 hi
    have := (hl i (Array.getElem?_eq_some_iff.1 ho).1).2 h1
    simp at this
  | succ fuel ih =>
    intro listed a w l hsub hl hc hf hew
    have hlp : l.Pairwise (fun j i => (j != i && okR ops pu ld gr T j i) = true) := hPw.sublist hsub
    have both : ∀ i, i < ops.size → (listed.getD i true = false ↔ ¬ listed.getD i false = true) := by
      intro i hi
      have : i < listed.size := by rw [hc.size]; exact hi
      simp [this]
    have rdy_of : ∀ i, i ∈ Region.ready .any ops listed → i < ops.size ∧ Rdy ops listed i ∧ i ∈ l := by
      intro i hi
      obtain ⟨h1, o, ho, h2⟩ := mem_ready.1 hi
      have hlt := (Array.getElem?_eq_some_iff.1 ho).1
      refine ⟨hlt, fun k hk => ?_, (hl i hlt).2 h1⟩
      obtain ⟨e, he, hb, rfl⟩ := (wt_spec ho).1 hk
      exact h2 e he hb
    refine ⟨fun hr => ?_, fun i hi => ?_⟩
    · -- nothing may come: all has come
      cases l with
      | nil => exact hew
      | cons i r =>
        exfalso
        have hilt := hElt i (hsub.mem (by simp))
        have : i ∈ Region.ready .any ops listed := by
          rw [mem_ready]
          refine ⟨(hl i hilt).1 (by simp), _, Array.getElem?_eq_getElem hilt, fun e he hb => ?_⟩
          have hw : wt ops i e.on = true := (wt_spec (Array.getElem?_eq_getElem hilt)).2 ⟨e, he, hb, rfl⟩
          have hlt := honlt i e.on hw
          cases hlk : listed.getD e.on false with
          | true => rfl
          | false =>
            exfalso
            have hmem := (hl e.on hlt).2 ((both e.on hlt).2 (by rw [hlk]; simp))
            rcases List.mem_cons.1 hmem with h | h
            · rw [h, hself i hilt] at hw; cases hw
            · have := (List.pairwise_cons.1 hlp).1 _ h
              simp only [okR, Bool.and_eq_true, Bool.not_eq_true'] at this
              rw [this.2.2] at hw; cases hw
        rw [hr] at this; cases this
    · obtain ⟨hlt, hrd, hmem⟩ := rdy_of i hi
      obtain ⟨pre, post, rfl⟩ := List.append_of_mem hmem
      have hpre : ∀ j, j ∈ pre → (j != i && okR ops pu ld gr T j i) = true := fun j hj => (List.pairwise_append.1 hlp).2.2 j hj i (by simp)
      have hun : ∀ j, j ∈ pre → ¬ listed.getD j false = true := fun j hj => by
        have hj' := hElt j (hsub.mem (by simp [hj]))
        exact (both j hj').1 ((hl j hj').1 (by simp [hj]))
      have hdep := dep_listed hT hc i hlt hrd
      have hoi : ops[i]? = some ops[i] := Array.getElem?_eq_getElem hlt
      have hfront := EW.front (P := P) (Q := Q) hsel hoi (post := post) pre a w (fun j hj => ?_) (fun j oj hj hoj => ?_) (fun q1 q2 j hj => ?_) hew
      · refine wpOp_of_eOp (fun a' w' h => ih (listed.setIfInBounds i true) a' w' (pre ++ post) ?_ (fun k hk => ?_) ⟨by simp [hc.size], fun k hk => ?_⟩ ?_ h) hfront
        · exact (List.Sublist.append_left (List.sublist_cons_self i post) pre).trans hsub
        · by_cases hki : i = k
          · subst hki
            have h1 : (listed.setIfInBounds i true).getD i true = true := by simp
            rw [h1]
            simp only [Bool.true_eq_false, iff_false]
            have hnd : (pre ++ i :: post).Pairwise (fun j i => j ≠ i) := hlp.imp (fun h => by simp only [Bool.and_eq_true, bne_iff_ne] at h; exact h.1)
            intro hm
            rcases List.mem_append.1 hm with h | h
            · exact (List.pairwise_append.1 hnd).2.2 i h i (by simp) rfl
            · exact (List.pairwise_cons.1 (List.pairwise_append.1 hnd).2.1).1 i h rfl
          · rw [getD_set_ne true hki, ← hl k hk]
            simp only [List.mem_append, List.mem_cons]
            constructor
            · rintro (h | h)
              · exact .inl h
              · exact .inr (.inr h)
            · rintro (h | h | h)
              · exact .inl h
              · exact absurd h.symm hki
              · exact .inr h
        · intro q hq
          by_cases hki : i = k
          · subst hki; exact getD_set_true (hrd q hq)
          · rw [getD_set_ne false hki] at hk
            exact getD_set_true (hc.rdy k hk q hq)
        · simp only [List.length_append, List.length_cons] at hf ⊢; omega
      · have := hpre j hj
        simp only [okR, Bool.and_eq_true, Bool.or_eq_true] at this
        rcases this.2.1.1.2 with h | h
        · exact h
        · exact absurd (hdep j h) (hun j hj)
      · have := hpre j hj
        simp only [okR, Bool.and_eq_true, Bool.or_eq_true, hoj, hoi] at this
        rcases this.2.1.1.1 with h | h
        · exact absurd (hrd j h) (hun j hj)
        · exact h
      · have := hpre j hj
        simp only [okR, Bool.and_eq_true, Bool.or_eq_true, q1, q2, Bool.not_eq_true'] at this
        rcases this.2.1.2 with ((h | h) | h) | h
        · cases h
        · cases h
        · exact h
        · exact absurd (hdep j h) (hun j hj)

/-- A region that draws its order. -/
theorem wp_region_eager {id : Nat} {E : List Nat} {T : List (List Nat)} (hm : P.follows .mixedOrders = true) (hB : eagerB ops pu ld gr E T = true) (h : EW P ops pu ld gr Q E a { w with drawn := w.drawn + 1 }) (hlen : E.length ≤ ops.size) : (Code.region id ops true).wp P Q a w := by
  have hB' := hB
  simp only [eagerB, Bool.and_eq_true] at hB'
  obtain ⟨⟨⟨⟨⟨hsel0, hE⟩, hall⟩, hpair⟩, hT0⟩, hon⟩ := hB'
  refine wp_region_any hm (any_of_EW hB ops.size _ a _ E (List.Sublist.refl E) (fun i hi => ?_) ⟨by simp, fun k hk => ?_⟩ hlen h)
  · constructor
    · intro _; simp [hi]
    · intro _
      have := List.all_eq_true.1 hall i (List.mem_range.2 hi)
      simpa using this
  · rcases Nat.lt_or_ge k ops.size with h' | h'
    · simp [h'] at hk
    · simp [h'] at hk
end
end Go.Dm
