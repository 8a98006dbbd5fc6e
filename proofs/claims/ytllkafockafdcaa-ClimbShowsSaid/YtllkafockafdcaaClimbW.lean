/-
  What an expression of two others reads to.
-/
import Derived.Test.YtllkafockafdcaaClimbV
namespace Go.Dm
set_option linter.unusedSimpArgs false
set_option linter.unusedVariables false
theorem rd_we {ops : List Opr} (hc : ConsO ops) (hn : ops.length ≤ 100) {l p : List Int} (hv : ∀ s, s ∈ l → vS ops s) (h : rdC ops l = some p) : WE l := by
  obtain ⟨q, P, rfl, hP, hr⟩ := rd_run hc hv h [] [] fun o _ t ht => by simp at ht
  have hw := tw_all (p := nO) (P := P) (T := []) (fun t ht => by
    obtain ⟨_, _, _, ho, _⟩ := hP t ht
    unfold isO at ho
    simp only [nO, decide_eq_true_eq]; omega) (fun t ht => by simp at ht)
  have := run_ac hr rfl hw.2
  obtain ⟨e, r, k1, k2, k3⟩ := ac_we hn hv this
  rcases k3 with ⟨k3, _⟩ | ⟨d2, r', k3, _⟩
  · subst k3
    rw [List.append_nil] at k1
    subst k1
    exact k2
  · simp [cnt] at k3
theorem we_sc {ops : List Opr} (hc : ConsO ops) {l : List Int} (hv : ∀ s, s ∈ l → vS ops s) (h : WE l) : ∃ la, scC ops l l.length = some (0, la) := by
  obtain ⟨hd0, hdn⟩ := we_dep h
  obtain ⟨⟨d, la⟩, hs, hd⟩ := scC_none (ops := ops) (Nat.le_refl l.length) fun m _ => hdn m
  rw [List.take_length, hd0] at hd
  simp only at hd
  subst hd
  exact ⟨la, hs⟩
theorem par_D0 {e : List Int} (he : WE e) (o : Int) : ¬ D0 (-1 :: (e ++ [-2])) o := fun ⟨i, hi, hio, ho, hd⟩ => by
  cases i with
  | zero => subst hio; unfold isO at ho; simp at ho
  | succ i =>
    rw [List.take_succ_cons, List.take_append] at hd
    simp only [List.length_cons, List.length_append, List.length_nil] at hi
    rw [show i - e.length = 0 by omega] at hd
    simp only [List.take_zero, List.append_nil, dep] at hd
    have h1 := (we_dep he).2 i
    have h3 : dp1 (-1) = 1 := rfl
    omega
theorem vS_par {ops : List Opr} {e : List Int} (hv : ∀ s, s ∈ e → vS ops s) : ∀ s, s ∈ (-1 :: (e ++ [-2])) → vS ops s := fun s hs => by
  rcases List.mem_cons.mp hs with rfl | hs
  · exact .inr (.inr (.inl rfl))
  · rcases List.mem_append.mp hs with hs | hs
    · exact hv s hs
    · rw [List.mem_singleton] at hs; subst hs; exact .inr (.inr (.inr rfl))
/-- Parentheses change nothing. -/
theorem rd_par {ops : List Opr} (hc : ConsO ops) {e : List Int} (hv : ∀ s, s ∈ e → vS ops s) (he : WE e) : rdC ops (-1 :: (e ++ [-2])) = rdC ops e := by
  have hep := we_pos he
  have hlen : (-1 :: (e ++ [-2])).length = e.length + 2 := by simp
  have h1 : ¬ ((-1 :: (e ++ [-2])).length = 1 ∧ 100 ≤ (-1 :: (e ++ [-2])).getD 0 0) := fun h => by rw [hlen] at h; omega
  obtain ⟨la, hs⟩ := we_sc hc (vS_par hv) (.par he)
  obtain ⟨_, _, k3⟩ := scC_spec hc (vS_par hv) (Nat.le_refl _) hs
  have hla : la < 0 := by
    rcases k3 with ⟨h, _⟩ | ⟨n, h, hL⟩
    · omega
    · exact absurd ⟨n, hL.lt, rfl, hL.op, hL.de⟩ (par_D0 he _)
  have hb : ¬ ((-1 :: (e ++ [-2])).length < 3 ∨ (-1 :: (e ++ [-2])).getD 0 0 ≠ -1 ∨ (-1 :: (e ++ [-2])).getD ((-1 :: (e ++ [-2])).length - 1) 0 ≠ -2) := by
    rintro (h | h | h)
    · omega
    · exact h rfl
    · refine h ?_
      rw [hlen, show e.length + 2 - 1 = e.length + 1 by omega, List.getD_cons_succ]
      simp [List.getD]
  have hin : inn (-1 :: (e ++ [-2])) = e := by
    unfold inn
    rw [hlen, show e.length + 2 - 1 = e.length + 1 by omega, List.take_succ_cons, List.drop_succ_cons, List.drop_zero, List.take_append]
    simp
  rw [rdC_par h1 hs rfl hla hb, hin]
section
variable {ops : List Opr} {x y : List Int} {op : Int}
theorem all_at : (x ++ op :: y).getD x.length 0 = op := by
  simp only [List.getD]
  rw [List.getElem?_append_right (Nat.le_refl _)]
  simp
theorem all_lo {i : Nat} (h : i < x.length) : (x ++ op :: y).getD i 0 = x.getD i 0 ∧ (x ++ op :: y).take i = x.take i := by
  refine ⟨by simp [List.getD, List.getElem?_append_left h], ?_⟩
  rw [List.take_append, show i - x.length = 0 by omega]; simp
theorem all_hi {j : Nat} : (x ++ op :: y).getD (x.length + 1 + j) 0 = y.getD j 0 ∧ (x ++ op :: y).take (x.length + 1 + j) = x ++ op :: y.take j := by
  refine ⟨?_, ?_⟩
  · simp only [List.getD]
    rw [List.getElem?_append_right (by omega), show x.length + 1 + j - x.length = j + 1 by omega, List.getElem?_cons_succ]
  · rw [List.take_append, List.take_of_length_le (by omega), show x.length + 1 + j - x.length = j + 1 by omega, List.take_succ_cons]
theorem all_take : (x ++ op :: y).take x.length = x := by simp
theorem all_drop : (x ++ op :: y).drop (x.length + 1) = y := by rw [List.drop_append]; simp
theorem vS_all (hvx : ∀ s, s ∈ x → vS ops s) (hvy : ∀ s, s ∈ y → vS ops s) (ho : 0 ≤ op ∧ op < ops.length) : ∀ s, s ∈ (x ++ op :: y) → vS ops s := fun s hs => by
  rcases List.mem_append.mp hs with hs | hs
  · exact hvx s hs
  · rcases List.mem_cons.mp hs with rfl | hs
    · exact .inl ho
    · exact hvy s hs
end
/-- What two expressions and an operator read to. -/
theorem rd_all {ops : List Opr} (hc : ConsO ops) (hn : ops.length ≤ 100) {x y pa pb : List Int} {op : Int} (hvx : ∀ s, s ∈ x → vS ops s) (hvy : ∀ s, s ∈ y → vS ops s) (ho : 0 ≤ op ∧ op < ops.length) (hx : rdC ops x = some pa) (hy : rdC ops y = some pb) :
    WE (x ++ op :: y) ∧ (rdC ops (x ++ op :: y) = some (pa ++ pb ++ [op]) ↔ (∀ o, D0 x o → bef ops o op = true) ∧ ∀ o, D0 y o → bef ops op o = false) := by
  have hio : isO op := ⟨ho.1, by omega⟩
  have wx := rd_we hc hn hvx hx
  have wy := rd_we hc hn hvy hy
  have wa : WE (x ++ op :: y) := .bin wx hio wy
  have hva := vS_all hvx hvy ho
  refine ⟨wa, ?_⟩
  have hlen : (x ++ op :: y).length = x.length + 1 + y.length := by rw [List.length_append, List.length_cons]; omega
  have hxp := we_pos wx
  have h1 : ¬ ((x ++ op :: y).length = 1 ∧ 100 ≤ (x ++ op :: y).getD 0 0) := fun h => by have := we_pos wy; omega
  obtain ⟨la, hs⟩ := we_sc hc hva wa
  obtain ⟨_, _, k3⟩ := scC_spec hc hva (Nat.le_refl _) hs
  have hdx := (we_dep wx).1
  have hdt : ∀ j, dep ((x ++ op :: y).take (x.length + 1 + j)) = dep (y.take j) := fun j => by
    rw [all_hi.2, dep_app, hdx]; simp only [dep, dp1_op hio]; omega
  rcases k3 with ⟨_, hno⟩ | ⟨n, hla, hL⟩
  · exact absurd (by rw [all_take]; exact hdx) (hno x.length (by omega) (by rw [all_at]; exact hio))
  · subst hla
    have hnl := hL.lt
    have hb := rdC_bin h1 hs rfl hnl
    have hat : isO ((x ++ op :: y).getD x.length 0) := by rw [all_at]; exact hio
    have hdat : dep ((x ++ op :: y).take x.length) = 0 := by rw [all_take]; exact hdx
    constructor
    · intro h
      have hne : n = x.length := by
        rw [hb] at h
        cases ra : rdC ops ((x ++ op :: y).take n) with
        | none => rw [ra] at h; cases h
        | some p1 =>
          cases rb : rdC ops ((x ++ op :: y).drop (n + 1)) with
          | none => rw [ra, rb] at h; cases h
          | some p2 =>
            rw [ra, rb] at h
            simp only [Option.some.injEq] at h
            have q1 := rdC_po hc (fun s hs' => hva s (List.mem_of_mem_take hs')) ra
            have q2 := rdC_po hc (fun s hs' => hva s (List.mem_of_mem_drop hs')) rb
            have qa := rdC_po hc hvx hx
            have qb := rdC_po hc hvy hy
            have e := (po_uniq h q2.1 qb.1).1
            subst e
            have e2 : nsg ((x ++ op :: y).take n) = nsg x := by rw [← q1.2, ← qa.2]
            rcases Nat.lt_trichotomy n x.length with h2 | h2 | h2
            · exfalso
              rw [(all_lo h2).2] at e2
              have h3 := bin_eq h2
              have h4 : isO (x.getD n 0) := by rw [← (all_lo (op := op) (y := y) h2).1]; exact hL.op
              have e3 : nsg x = nsg (x.take n) + nsg (x.getD n 0 :: x.drop (n + 1)) := by
                conv => lhs; rw [h3]
                rw [nsg_app]
              rw [nsg_cons_op h4] at e3
              omega
            · exact h2
            · exfalso
              obtain ⟨j, rfl⟩ : ∃ j, n = x.length + 1 + j := ⟨n - x.length - 1, by omega⟩
              rw [all_hi.2, nsg_app, nsg_cons_op hio] at e2
              omega
      subst hne
      refine ⟨fun o ⟨i, hi, hoi, hio', hid⟩ => ?_, fun o ⟨j, hj, hoj, hio', hid⟩ => ?_⟩
      · have := hL.be i hi (by rw [(all_lo hi).1, hoi]; exact hio') (by rw [(all_lo hi).2]; exact hid)
        rwa [(all_lo hi).1, hoi, all_at] at this
      · have := hL.af (x.length + 1 + j) (by omega) (by omega) (by rw [all_hi.1, hoj]; exact hio') (by rw [hdt]; exact hid)
        rwa [all_hi.1, hoj, all_at] at this
    · rintro ⟨hA, hB⟩
      have hne : n = x.length := by
        rcases Nat.lt_trichotomy n x.length with h2 | h2 | h2
        · exfalso
          have h3 := hL.af x.length h2 (by omega) hat hdat
          rw [all_at, (all_lo h2).1] at h3
          have h4 := hA (x.getD n 0) ⟨n, h2, rfl, by rw [← (all_lo (op := op) (y := y) h2).1]; exact hL.op, by rw [← (all_lo (op := op) (y := y) h2).2]; exact hL.de⟩
          rw [h3] at h4; cases h4
        · exact h2
        · exfalso
          obtain ⟨j, rfl⟩ : ∃ j, n = x.length + 1 + j := ⟨n - x.length - 1, by omega⟩
          have h3 := hL.be x.length (by omega) hat hdat
          rw [all_at, all_hi.1] at h3
          have h4 := hB (y.getD j 0) ⟨j, by omega, rfl, by rw [← (all_hi (x := x) (op := op) (y := y)).1]; exact hL.op, by rw [← hdt]; exact hL.de⟩
          rw [h3] at h4; cases h4
      subst hne
      rw [hb, all_take, all_drop, hx, hy, all_at]
end Go.Dm
