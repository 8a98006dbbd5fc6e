/-
  Machines: where a word comes round again; the law TallyPumps.
-/
import Derived.Test.YtgdmapheppkahaaTPlace
namespace Go.Proofs.Ytgdmapheppkahaa
open Go.Dm
set_option linter.unusedSimpArgs false
set_option linter.unnecessarySimpa false
set_option linter.unusedVariables false
set_option linter.defProp false

/-- Where the first symbols lead. -/
def stA (m : Dm.Machine) (w : List Int) (p : Nat) : Int := leads m m.start (w.take p)
def PumpIs (m : Dm.Machine) (w : List Int) : Option (Nat × Nat) → Prop
  | none => ∀ i j, i < j → j ≤ w.length → stA m w i ≠ stA m w j
  | some (i, j) => i < j ∧ j ≤ w.length ∧ stA m w i = stA m w j ∧ ∀ i' j', i' < j' → j' < j → stA m w i' ≠ stA m w j'
theorem pump_uniq {m : Dm.Machine} {w : List Int} : ∀ {r q : Option (Nat × Nat)}, PumpIs m w r → PumpIs m w q → r = q
  | none, none, _, _ => rfl
  | none, some (i, j), h, h2 => absurd h2.2.2.1 (h i j h2.1 h2.2.1)
  | some (i, j), none, h, h2 => absurd h.2.2.1 (h2 i j h.1 h.2.1)
  | some (i, j), some (i2, j2), ⟨h1, h2, h3, h4⟩, ⟨k1, k2, k3, k4⟩ => by
    have e : j = j2 := by
      rcases Nat.lt_trichotomy j j2 with h | h | h
      · exact absurd h3 (k4 i j h1 h)
      · exact h
      · exact absurd k3 (h4 i2 j2 k1 h)
    subst e
    have e2 : i = i2 := by
      rcases Nat.lt_trichotomy i i2 with h | h | h
      · exact absurd (h3.trans k3.symm) (h4 i i2 h k1)
      · exact h
      · exact absurd (k3.trans h3.symm) (h4 i2 i h h1)
    rw [e2]
def vsD (m : Dm.Machine) (w : List Int) (p : Nat) : List D := [iv .i64 (stA m w p), iv .i64 p]
theorem vsD_eq {m : Dm.Machine} {w : List Int} {p : Nat} : vsD m w p = [iv .i64 (stA m w p), iv .i64 p] := (rfl)
theorem rng_len {n : Nat} : (List.range n).length = n := List.length_range
theorem rng_get {n r : Nat} (h : r < n) : (List.range n).getD r default = r := by simp [List.getD, h]
def vvs := And.intro @vsD_eq <| And.intro @rng_len <| And.intro @rng_get @Int.add_sub_cancel
theorem vs_in {m : Dm.Machine} {w : List Int} {n r : Nat} {x : Int} (hr : r < (tbl (vsD m w) (List.range n)).length) (he : Agr (((tbl (vsD m w) (List.range n)).getD r []).take 1) [.v (.int .i64 x)]) : r < n ∧ stA m w r = x := by
  rw [tbl_len, List.length_range] at hr
  rw [tbl_get (by rw [List.length_range]; exact hr), rng_get hr, vsD_eq] at he
  simp only [List.take_succ_cons, List.take_zero, Agr_v, D.v.injEq, Value.int.injEq, true_and] at he
  exact ⟨hr, he.1⟩
theorem vs_out {m : Dm.Machine} {w : List Int} {n : Nat} {x : Int} (hn : ∀ r, r < (tbl (vsD m w) (List.range n)).length → ((tbl (vsD m w) (List.range n)).getD r []).take 1 ≠ [.v (.int .i64 x)]) : ∀ r, r < n → stA m w r ≠ x := fun r hr e => by
  have h1 := hn r (by rw [tbl_len, List.length_range]; exact hr)
  rw [tbl_get (by rw [List.length_range]; exact hr), rng_get hr, vsD_eq, e] at h1
  exact h1 rfl
def pmD : Option (Nat × Nat) → D
  | none => .tu [.v (.int .i64 0), .v (.int .i64 0), .v (.int .i64 5)]
  | some (i, j) => .tu [iv .i64 i, iv .i64 j, .v (.int .i64 0)]
def prD2 : Option (Nat × Nat) → D
  | none => .tu [.v (.int .i64 0), .v (.int .i64 0), .v (.bool false)]
  | some (i, j) => .tu [iv .i64 i, iv .i64 j, .v (.bool true)]
set_option maxRecDepth 10000 in
set_option maxHeartbeats 4000000 in
theorem pump_spec (m : Dm.Machine) (hm : m.ok) (w : List Int) (hw : w.length ≤ 9223372036854775807) (hc : mcode m = 0) (hwc : wcode m.k w = 0) : Dm.Spec Try.prog 27 [.ag (macD m), .sl 1 (i64s w)] (fun d => ∃ r, PumpIs m w r ∧ d = pmD r) := by
  refine spec_of_vc mixed Try.func27 c27 (by rw [show Try.f27.ntmps = _ from Try.ntmps27]; simp) ?_
  unfold m27 r27
  have hv := vm_of hm.2.2.2.2.1 hc
  have hk := hv.k
  have hn := hv.n
  have hlen := hv.len
  have hst := hv.start
  have ⟨hl, hs⟩ := wcode_ok hwc
  have hC := checkWord_spec m hm w hw
  rw [if_pos hc, hwc] at hC
  repeat' first | (refine Br.dec (fun h => ?_) (fun h => ?_) <;> try (exfalso; omega)) | (refine Br.eqi (fun h => ?_) (fun h => ?_) <;> try (exfalso; omega)) | (simp (disch := (first | omega | (simp only [vlen]; first | done | omega))) only [vvs, ↓va0, ↓va1, ↓va2, ↓va3, vb0, vb1, vb2, vb3, vb4, vb5, vb6, vb7, vb8, vb9, vb10, vz0, vz1, vy0, vx0, ↓reduceIte, Nat.reduceBEq, Nat.reduceEqDiff, Nat.reduceLT, Nat.reduceLeDiff, Nat.reduceAdd, Nat.reduceMul, Nat.reduceSub, reduceCtorEq, Int.reduceToNat]) | (refine Br.mk (fun h => ?_) (fun h => ?_)) | (refine BrN.mk (fun h => ?_) ?_) | (refine AltVC.mk ?_ ?_)
  refine CallVC.eq hC ?_
  repeat' first | (refine Br.dec (fun h => ?_) (fun h => ?_) <;> try (exfalso; omega)) | (refine Br.eqi (fun h => ?_) (fun h => ?_) <;> try (exfalso; omega)) | (simp (disch := (first | omega | (simp only [vlen]; first | done | omega))) only [vvs, ↓va0, ↓va1, ↓va2, ↓va3, vb0, vb1, vb2, vb3, vb4, vb5, vb6, vb7, vb8, vb9, vb10, vz0, vz1, vy0, vx0, ↓reduceIte, Nat.reduceBEq, Nat.reduceEqDiff, Nat.reduceLT, Nat.reduceLeDiff, Nat.reduceAdd, Nat.reduceMul, Nat.reduceSub, reduceCtorEq, Int.reduceToNat]) | (refine Br.mk (fun h => ?_) (fun h => ?_)) | (refine BrN.mk (fun h => ?_) ?_) | (refine AltVC.mk ?_ ?_)
  refine BrK.mk (fun r hr he => absurd hr (by simp)) (fun hnn => ?_)
  repeat' first | (refine Br.dec (fun h => ?_) (fun h => ?_) <;> try (exfalso; omega)) | (refine Br.eqi (fun h => ?_) (fun h => ?_) <;> try (exfalso; omega)) | (simp (disch := (first | omega | (simp only [vlen]; first | done | omega))) only [vvs, ↓va0, ↓va1, ↓va2, ↓va3, vb0, vb1, vb2, vb3, vb4, vb5, vb6, vb7, vb8, vb9, vb10, vz0, vz1, vy0, vx0, ↓reduceIte, Nat.reduceBEq, Nat.reduceEqDiff, Nat.reduceLT, Nat.reduceLeDiff, Nat.reduceAdd, Nat.reduceMul, Nat.reduceSub, reduceCtorEq, Int.reduceToNat]) | (refine Br.mk (fun h => ?_) (fun h => ?_)) | (refine BrN.mk (fun h => ?_) ?_) | (refine AltVC.mk ?_ ?_)
  refine LoopVC.mk (X := Nat) (fun j => [(8, iv .i64 (stA m w j)), (9, .mp 1), (27, iv .i64 j)]) (fun j => [(0, mOb m), (1, ⟨2, tbl (vsD m w) (List.range (j + 1)), true, false, .map [.i64] false false⟩)]) (fun j => w.length - j) (fun j => j ≤ w.length ∧ ∀ i' j', i' < j' → j' ≤ j → stA m w i' ≠ stA m w j') 0 ⟨by omega, fun i' j' h1 h2 => by omega⟩ ?_ ?_
  · (simp (disch := (first | omega | (simp only [vlen]; first | done | omega))) only [Fits_u, Fits_m, Fits_nil, List.length_append, vvs, ↓va0, ↓va1, ↓va2, ↓va3, vb0, vb1, vb2, vb3, vb4, vb5, vb6, vb7, vb8, vb9, vb10, vz0, vz1, vy0, vx0, ↓reduceIte, Nat.reduceBEq, Nat.reduceEqDiff, Nat.reduceLT, Nat.reduceLeDiff, Nat.reduceAdd, Nat.reduceMul, Nat.reduceSub, reduceCtorEq, Int.reduceToNat] <;> (repeat' first | rfl | apply And.intro))
    all_goals first | rfl | trace_state
  · rintro j ⟨hj, hb⟩
    have hp : 0 ≤ stA m w j ∧ stA m w j < m.n := leads_ok (w := w.take j) hv hst
    have hx := hv.nx hp
    have hsi := getD_ok (by omega) hs j
    by_cases hjl : j < w.length
    · have e : stA m w (j + 1) = mstep m (stA m w j) (w.getD j 0) := leads_succ (m := m) (p := m.start) (w := w) (i := j) hjl
      have hp1 : 0 ≤ stA m w (j + 1) ∧ stA m w (j + 1) < m.n := leads_ok (w := w.take (j + 1)) hv hst
      have e' : (m.next.getD (stA m w j).toNat default).getD (w.getD j 0).toNat 0 = stA m w (j + 1) := by rw [e]; rfl
      repeat' first | (refine Br.dec (fun h => ?_) (fun h => ?_) <;> try (exfalso; omega)) | (refine Br.eqi (fun h => ?_) (fun h => ?_) <;> try (exfalso; omega)) | (simp (disch := (first | omega | (simp only [vlen]; first | done | omega))) only [vvs, e', ↓va0, ↓va1, ↓va2, ↓va3, vb0, vb1, vb2, vb3, vb4, vb5, vb6, vb7, vb8, vb9, vb10, vz0, vz1, vy0, vx0, ↓reduceIte, Nat.reduceBEq, Nat.reduceEqDiff, Nat.reduceLT, Nat.reduceLeDiff, Nat.reduceAdd, Nat.reduceMul, Nat.reduceSub, reduceCtorEq, Int.reduceToNat]) | (refine Br.mk (fun h => ?_) (fun h => ?_)) | (refine BrN.mk (fun h => ?_) ?_) | (refine AltVC.mk ?_ ?_)
      refine BrK.mk (fun r hr he => ?_) (fun hnn => ?_)
      · obtain ⟨hr1, hr2⟩ := vs_in hr he
        have hR : (tbl (vsD m w) (List.range (j + 1))).getD r [] = [iv .i64 (stA m w r), iv .i64 r] := by
          rw [tbl_get (by rw [List.length_range]; exact hr1), rng_get hr1]; rfl
        repeat' first | (refine Br.dec (fun h => ?_) (fun h => ?_) <;> try (exfalso; omega)) | (refine Br.eqi (fun h => ?_) (fun h => ?_) <;> try (exfalso; omega)) | (simp (disch := (first | omega | (simp only [vlen]; first | done | omega))) only [vvs, e', hR, ↓va0, ↓va1, ↓va2, ↓va3, vb0, vb1, vb2, vb3, vb4, vb5, vb6, vb7, vb8, vb9, vb10, vz0, vz1, vy0, vx0, ↓reduceIte, Nat.reduceBEq, Nat.reduceEqDiff, Nat.reduceLT, Nat.reduceLeDiff, Nat.reduceAdd, Nat.reduceMul, Nat.reduceSub, reduceCtorEq, Int.reduceToNat]) | (refine Br.mk (fun h => ?_) (fun h => ?_)) | (refine BrN.mk (fun h => ?_) ?_) | (refine AltVC.mk ?_ ?_)
        exact fin_mk ⟨some (r, j + 1), ⟨hr1, by omega, hr2, fun i' j' h1 h2 => hb i' j' h1 (by omega)⟩, rfl⟩
      · have hne := vs_out hnn
        repeat' first | (refine Br.dec (fun h => ?_) (fun h => ?_) <;> try (exfalso; omega)) | (refine Br.eqi (fun h => ?_) (fun h => ?_) <;> try (exfalso; omega)) | (simp (disch := (first | omega | (simp only [vlen]; first | done | omega))) only [vvs, e', ↓va0, ↓va1, ↓va2, ↓va3, vb0, vb1, vb2, vb3, vb4, vb5, vb6, vb7, vb8, vb9, vb10, vz0, vz1, vy0, vx0, ↓reduceIte, Nat.reduceBEq, Nat.reduceEqDiff, Nat.reduceLT, Nat.reduceLeDiff, Nat.reduceAdd, Nat.reduceMul, Nat.reduceSub, reduceCtorEq, Int.reduceToNat]) | (refine Br.mk (fun h => ?_) (fun h => ?_)) | (refine BrN.mk (fun h => ?_) ?_) | (refine AltVC.mk ?_ ?_)
        refine BrK.mk (fun r hr he => absurd (vs_in hr he).2 (hne r (vs_in hr he).1)) (fun hnn => ?_)
        repeat' first | (refine Br.dec (fun h => ?_) (fun h => ?_) <;> try (exfalso; omega)) | (refine Br.eqi (fun h => ?_) (fun h => ?_) <;> try (exfalso; omega)) | (simp (disch := (first | omega | (simp only [vlen]; first | done | omega))) only [vvs, e', ↓va0, ↓va1, ↓va2, ↓va3, vb0, vb1, vb2, vb3, vb4, vb5, vb6, vb7, vb8, vb9, vb10, vz0, vz1, vy0, vx0, ↓reduceIte, Nat.reduceBEq, Nat.reduceEqDiff, Nat.reduceLT, Nat.reduceLeDiff, Nat.reduceAdd, Nat.reduceMul, Nat.reduceSub, reduceCtorEq, Int.reduceToNat]) | (refine Br.mk (fun h => ?_) (fun h => ?_)) | (refine BrN.mk (fun h => ?_) ?_) | (refine AltVC.mk ?_ ?_)
        refine loopK.mk (j + 1) (by simp (disch := (first | omega | (simp only [vlen]; first | done | omega))) only [↓va0, ↓va1, ↓va2, ↓va3, vb0, vb1, vb2, vb3, vb4, vb5, vb6, vb7, vb8, vb9, vb10, vz0, vz1, vy0, vx0, ↓reduceIte, Nat.reduceBEq, Nat.reduceEqDiff, Nat.reduceLT, Nat.reduceLeDiff, Nat.reduceAdd, Nat.reduceMul, Nat.reduceSub, reduceCtorEq, Int.reduceToNat]) ⟨by omega, fun i' j' h1 h2 => ?_⟩ (by omega) ?_
        · by_cases e2 : j' = j + 1
          · subst e2; exact hne i' (by omega)
          · exact hb i' j' h1 (by omega)
        · rw [show tbl (vsD m w) (List.range (j + 1 + 1)) = tbl (vsD m w) (List.range (j + 1)) ++ [vsD m w (j + 1)] by rw [List.range_succ, tbl_app]]
          (simp (disch := (first | omega | (simp only [vlen]; first | done | omega))) only [Fits_u, Fits_m, Fits_nil, List.length_append, vvs, ↓va0, ↓va1, ↓va2, ↓va3, vb0, vb1, vb2, vb3, vb4, vb5, vb6, vb7, vb8, vb9, vb10, vz0, vz1, vy0, vx0, ↓reduceIte, Nat.reduceBEq, Nat.reduceEqDiff, Nat.reduceLT, Nat.reduceLeDiff, Nat.reduceAdd, Nat.reduceMul, Nat.reduceSub, reduceCtorEq, Int.reduceToNat] <;> (repeat' first | rfl | apply And.intro))
          all_goals trace_state
    · repeat' first | (refine Br.dec (fun h => ?_) (fun h => ?_) <;> try (exfalso; omega)) | (refine Br.eqi (fun h => ?_) (fun h => ?_) <;> try (exfalso; omega)) | (simp (disch := (first | omega | (simp only [vlen]; first | done | omega))) only [vvs, ↓va0, ↓va1, ↓va2, ↓va3, vb0, vb1, vb2, vb3, vb4, vb5, vb6, vb7, vb8, vb9, vb10, vz0, vz1, vy0, vx0, ↓reduceIte, Nat.reduceBEq, Nat.reduceEqDiff, Nat.reduceLT, Nat.reduceLeDiff, Nat.reduceAdd, Nat.reduceMul, Nat.reduceSub, reduceCtorEq, Int.reduceToNat]) | (refine Br.mk (fun h => ?_) (fun h => ?_)) | (refine BrN.mk (fun h => ?_) ?_) | (refine AltVC.mk ?_ ?_)
      exact fin_mk ⟨none, fun i j' h1 h2 => hb i j' h1 (by omega), rfl⟩
set_option maxRecDepth 10000 in
set_option maxHeartbeats 4000000 in
theorem pump_err (m : Dm.Machine) (hm : m.ok) (w : List Int) (hw : w.length ≤ 9223372036854775807) (c : Int) (hc : c = if mcode m = 0 then wcode m.k w else mcode m) (hc0 : ¬ c = 0) : Dm.Spec Try.prog 27 [.ag (macD m), .sl 1 (i64s w)] (· = .tu [.v (.int .i64 0), .v (.int .i64 0), .v (.int .i64 c)]) := by
  refine spec_of_vc mixed Try.func27 c27 (by rw [show Try.f27.ntmps = _ from Try.ntmps27]; simp) ?_
  unfold m27 r27
  have hC := checkWord_spec m hm w hw
  rw [← hc] at hC
  repeat' first | (refine Br.dec (fun h => ?_) (fun h => ?_) <;> try (exfalso; omega)) | (refine Br.eqi (fun h => ?_) (fun h => ?_) <;> try (exfalso; omega)) | (simp (disch := (first | omega | (simp only [vlen]; first | done | omega))) only [vvs, ↓va0, ↓va1, ↓va2, ↓va3, vb0, vb1, vb2, vb3, vb4, vb5, vb6, vb7, vb8, vb9, vb10, vz0, vz1, vy0, vx0, ↓reduceIte, Nat.reduceBEq, Nat.reduceEqDiff, Nat.reduceLT, Nat.reduceLeDiff, Nat.reduceAdd, Nat.reduceMul, Nat.reduceSub, reduceCtorEq, Int.reduceToNat]) | (refine Br.mk (fun h => ?_) (fun h => ?_)) | (refine BrN.mk (fun h => ?_) ?_) | (refine AltVC.mk ?_ ?_)
  refine CallVC.eq hC ?_
  repeat' first | (refine Br.dec (fun h => ?_) (fun h => ?_) <;> try (exfalso; omega)) | (refine Br.eqi (fun h => ?_) (fun h => ?_) <;> try (exfalso; omega)) | (simp (disch := (first | omega | (simp only [vlen]; first | done | omega))) only [vvs, ↓va0, ↓va1, ↓va2, ↓va3, vb0, vb1, vb2, vb3, vb4, vb5, vb6, vb7, vb8, vb9, vb10, vz0, vz1, vy0, vx0, ↓reduceIte, Nat.reduceBEq, Nat.reduceEqDiff, Nat.reduceLT, Nat.reduceLeDiff, Nat.reduceAdd, Nat.reduceMul, Nat.reduceSub, reduceCtorEq, Int.reduceToNat]) | (refine Br.mk (fun h => ?_) (fun h => ?_)) | (refine BrN.mk (fun h => ?_) ?_) | (refine AltVC.mk ?_ ?_)
  exact fin_mk rfl
set_option maxRecDepth 10000 in
set_option maxHeartbeats 4000000 in
theorem refPump_spec (m : Dm.Machine) (hm : m.ok) (w : List Int) (hw : w.length ≤ 9223372036854775807) (hc : mcode m = 0) (hwc : wcode m.k w = 0) : Dm.Spec Try.prog 28 [.ag (macD m), .sl 1 (i64s w)] (fun d => ∃ r, PumpIs m w r ∧ d = prD2 r) := by
  refine spec_of_vc mixed Try.func28 c28 (by rw [show Try.f28.ntmps = _ from Try.ntmps28]; simp) ?_
  unfold m28 r28
  have hv := vm_of hm.2.2.2.2.1 hc
  have hk := hv.k
  have hn := hv.n
  have hst := hv.start
  have ⟨hl, hs⟩ := wcode_ok hwc
  have hL := fun p => leads_spec m hv m.start hv.start (w.take p) (fun x hx => hs x (List.mem_of_mem_take hx)) (by rw [List.length_take]; omega)
  repeat' first | (refine Br.dec (fun h => ?_) (fun h => ?_) <;> try (exfalso; omega)) | (refine Br.eqi (fun h => ?_) (fun h => ?_) <;> try (exfalso; omega)) | (simp (disch := (first | omega | (simp only [vlen]; first | done | omega))) only [vvs, ↓va0, ↓va1, ↓va2, ↓va3, vb0, vb1, vb2, vb3, vb4, vb5, vb6, vb7, vb8, vb9, vb10, vz0, vz1, vy0, vx0, ↓reduceIte, Nat.reduceBEq, Nat.reduceEqDiff, Nat.reduceLT, Nat.reduceLeDiff, Nat.reduceAdd, Nat.reduceMul, Nat.reduceSub, reduceCtorEq, Int.reduceToNat]) | (refine Br.mk (fun h => ?_) (fun h => ?_)) | (refine BrN.mk (fun h => ?_) ?_) | (refine AltVC.mk ?_ ?_)
  refine LoopVC.mk (X := Nat) (fun j => [(7, iv .i64 j)]) (fun j => [(0, mOb m)]) (fun j => w.length + 1 - j) (fun j => 1 ≤ j ∧ j ≤ w.length + 1 ∧ ∀ i' j', i' < j' → j' < j → stA m w i' ≠ stA m w j') 1 ⟨by omega, by omega, fun i' j' h1 h2 => by omega⟩ ?_ ?_
  · (simp (disch := (first | omega | (simp only [vlen]; first | done | omega))) only [Fits_u, Fits_m, Fits_nil, List.length_append, vvs, ↓va0, ↓va1, ↓va2, ↓va3, vb0, vb1, vb2, vb3, vb4, vb5, vb6, vb7, vb8, vb9, vb10, vz0, vz1, vy0, vx0, ↓reduceIte, Nat.reduceBEq, Nat.reduceEqDiff, Nat.reduceLT, Nat.reduceLeDiff, Nat.reduceAdd, Nat.reduceMul, Nat.reduceSub, reduceCtorEq, Int.reduceToNat] <;> (repeat' first | rfl | apply And.intro))
  · rintro j ⟨hj1, hj, hb⟩
    by_cases hjl : j ≤ w.length
    · repeat' first | (refine Br.dec (fun h => ?_) (fun h => ?_) <;> try (exfalso; omega)) | (refine Br.eqi (fun h => ?_) (fun h => ?_) <;> try (exfalso; omega)) | (simp (disch := (first | omega | (simp only [vlen]; first | done | omega))) only [vvs, ↓va0, ↓va1, ↓va2, ↓va3, vb0, vb1, vb2, vb3, vb4, vb5, vb6, vb7, vb8, vb9, vb10, vz0, vz1, vy0, vx0, ↓reduceIte, Nat.reduceBEq, Nat.reduceEqDiff, Nat.reduceLT, Nat.reduceLeDiff, Nat.reduceAdd, Nat.reduceMul, Nat.reduceSub, reduceCtorEq, Int.reduceToNat]) | (refine Br.mk (fun h => ?_) (fun h => ?_)) | (refine BrN.mk (fun h => ?_) ?_) | (refine AltVC.mk ?_ ?_)
      refine LoopVC.mk (X := Nat) (fun c => [(8, iv .i64 ((j : Int) - 1 - c))]) (fun _ => [(0, mOb m)]) (fun c => j - c) (fun c => c ≤ j ∧ ∀ i', j - c ≤ i' → i' < j → stA m w i' ≠ stA m w j) 0 ⟨by omega, fun i' h1 h2 => by omega⟩ ?_ ?_
      · (simp (disch := (first | omega | (simp only [vlen]; first | done | omega))) only [Fits_u, Fits_m, Fits_nil, List.length_append, vvs, ↓va0, ↓va1, ↓va2, ↓va3, vb0, vb1, vb2, vb3, vb4, vb5, vb6, vb7, vb8, vb9, vb10, vz0, vz1, vy0, vx0, ↓reduceIte, Nat.reduceBEq, Nat.reduceEqDiff, Nat.reduceLT, Nat.reduceLeDiff, Nat.reduceAdd, Nat.reduceMul, Nat.reduceSub, reduceCtorEq, Int.reduceToNat] <;> (repeat' first | rfl | apply And.intro))
        all_goals exact viEq (by omega)
      · rintro c ⟨hcj, hcb⟩
        by_cases hc2 : c < j
        · have hLi := hL (j - 1 - c)
          have hLj := hL j
          have ei : ((j : Int) - 1 - c).toNat = j - 1 - c := by omega
          repeat' first | (refine Br.dec (fun h => ?_) (fun h => ?_) <;> try (exfalso; omega)) | (refine Br.eqi (fun h => ?_) (fun h => ?_) <;> try (exfalso; omega)) | (simp (disch := (first | omega | (simp only [vlen]; first | done | omega))) only [vvs, ei, ↓va0, ↓va1, ↓va2, ↓va3, vb0, vb1, vb2, vb3, vb4, vb5, vb6, vb7, vb8, vb9, vb10, vz0, vz1, vy0, vx0, ↓reduceIte, Nat.reduceBEq, Nat.reduceEqDiff, Nat.reduceLT, Nat.reduceLeDiff, Nat.reduceAdd, Nat.reduceMul, Nat.reduceSub, reduceCtorEq, Int.reduceToNat]) | (refine Br.mk (fun h => ?_) (fun h => ?_)) | (refine BrN.mk (fun h => ?_) ?_) | (refine AltVC.mk ?_ ?_)
          refine CallP.eq hLi (by simp) ?_
          repeat' first | (refine Br.dec (fun h => ?_) (fun h => ?_) <;> try (exfalso; omega)) | (refine Br.eqi (fun h => ?_) (fun h => ?_) <;> try (exfalso; omega)) | (simp (disch := (first | omega | (simp only [vlen]; first | done | omega))) only [vvs, ei, ↓va0, ↓va1, ↓va2, ↓va3, vb0, vb1, vb2, vb3, vb4, vb5, vb6, vb7, vb8, vb9, vb10, vz0, vz1, vy0, vx0, ↓reduceIte, Nat.reduceBEq, Nat.reduceEqDiff, Nat.reduceLT, Nat.reduceLeDiff, Nat.reduceAdd, Nat.reduceMul, Nat.reduceSub, reduceCtorEq, Int.reduceToNat]) | (refine Br.mk (fun h => ?_) (fun h => ?_)) | (refine BrN.mk (fun h => ?_) ?_) | (refine AltVC.mk ?_ ?_)
          refine CallP.eq hLj (by simp) ?_
          repeat' first | (refine Br.dec (fun h => ?_) (fun h => ?_) <;> try (exfalso; omega)) | (refine Br.eqi (fun h => ?_) (fun h => ?_) <;> try (exfalso; omega)) | (simp (disch := (first | omega | (simp only [vlen]; first | done | omega))) only [vvs, ei, ↓va0, ↓va1, ↓va2, ↓va3, vb0, vb1, vb2, vb3, vb4, vb5, vb6, vb7, vb8, vb9, vb10, vz0, vz1, vy0, vx0, ↓reduceIte, Nat.reduceBEq, Nat.reduceEqDiff, Nat.reduceLT, Nat.reduceLeDiff, Nat.reduceAdd, Nat.reduceMul, Nat.reduceSub, reduceCtorEq, Int.reduceToNat]) | (refine Br.mk (fun h => ?_) (fun h => ?_)) | (refine BrN.mk (fun h => ?_) ?_) | (refine AltVC.mk ?_ ?_)
          · refine fin_mk ⟨some (j - 1 - c, j), ⟨by omega, hjl, by assumption, hb⟩, ?_⟩
            show D.tu [.v (.int .i64 ((j : Int) - 1 - c)), _, _] = D.tu [.v (.int .i64 ((j - 1 - c : Nat) : Int)), _, _]
            rw [show ((j : Int) - 1 - c) = ((j - 1 - c : Nat) : Int) by omega]
          · refine loopK.mk (c + 1) (by simp (disch := (first | omega | (simp only [vlen]; first | done | omega))) only [↓va0, ↓va1, ↓va2, ↓va3, vb0, vb1, vb2, vb3, vb4, vb5, vb6, vb7, vb8, vb9, vb10, vz0, vz1, vy0, vx0, ↓reduceIte, Nat.reduceBEq, Nat.reduceEqDiff, Nat.reduceLT, Nat.reduceLeDiff, Nat.reduceAdd, Nat.reduceMul, Nat.reduceSub, reduceCtorEq, Int.reduceToNat]) ⟨by omega, fun i' h1 h2 => ?_⟩ (by omega) ?_
            · by_cases e2 : i' = j - 1 - c
              · subst e2; assumption
              · exact hcb i' (by omega) h2
            · (simp (disch := (first | omega | (simp only [vlen]; first | done | omega))) only [Fits_u, Fits_m, Fits_nil, List.length_append, vvs, ↓va0, ↓va1, ↓va2, ↓va3, vb0, vb1, vb2, vb3, vb4, vb5, vb6, vb7, vb8, vb9, vb10, vz0, vz1, vy0, vx0, ↓reduceIte, Nat.reduceBEq, Nat.reduceEqDiff, Nat.reduceLT, Nat.reduceLeDiff, Nat.reduceAdd, Nat.reduceMul, Nat.reduceSub, reduceCtorEq, Int.reduceToNat] <;> (repeat' first | rfl | apply And.intro))
              all_goals exact viEq (by omega)
        · repeat' first | (refine Br.dec (fun h => ?_) (fun h => ?_) <;> try (exfalso; omega)) | (refine Br.eqi (fun h => ?_) (fun h => ?_) <;> try (exfalso; omega)) | (simp (disch := (first | omega | (simp only [vlen]; first | done | omega))) only [vvs, ↓va0, ↓va1, ↓va2, ↓va3, vb0, vb1, vb2, vb3, vb4, vb5, vb6, vb7, vb8, vb9, vb10, vz0, vz1, vy0, vx0, ↓reduceIte, Nat.reduceBEq, Nat.reduceEqDiff, Nat.reduceLT, Nat.reduceLeDiff, Nat.reduceAdd, Nat.reduceMul, Nat.reduceSub, reduceCtorEq, Int.reduceToNat]) | (refine Br.mk (fun h => ?_) (fun h => ?_)) | (refine BrN.mk (fun h => ?_) ?_) | (refine AltVC.mk ?_ ?_)
          refine loopK.mk (j + 1) (by simp (disch := (first | omega | (simp only [vlen]; first | done | omega))) only [↓va0, ↓va1, ↓va2, ↓va3, vb0, vb1, vb2, vb3, vb4, vb5, vb6, vb7, vb8, vb9, vb10, vz0, vz1, vy0, vx0, ↓reduceIte, Nat.reduceBEq, Nat.reduceEqDiff, Nat.reduceLT, Nat.reduceLeDiff, Nat.reduceAdd, Nat.reduceMul, Nat.reduceSub, reduceCtorEq, Int.reduceToNat]) ⟨by omega, by omega, fun i' j' h1 h2 => ?_⟩ (by omega) ?_
          · by_cases e2 : j' = j
            · subst e2; exact hcb i' (by omega) h1
            · exact hb i' j' h1 (by omega)
          · (simp (disch := (first | omega | (simp only [vlen]; first | done | omega))) only [Fits_u, Fits_m, Fits_nil, List.length_append, vvs, ↓va0, ↓va1, ↓va2, ↓va3, vb0, vb1, vb2, vb3, vb4, vb5, vb6, vb7, vb8, vb9, vb10, vz0, vz1, vy0, vx0, ↓reduceIte, Nat.reduceBEq, Nat.reduceEqDiff, Nat.reduceLT, Nat.reduceLeDiff, Nat.reduceAdd, Nat.reduceMul, Nat.reduceSub, reduceCtorEq, Int.reduceToNat] <;> (repeat' first | rfl | apply And.intro))
            all_goals trace_state
    · repeat' first | (refine Br.dec (fun h => ?_) (fun h => ?_) <;> try (exfalso; omega)) | (refine Br.eqi (fun h => ?_) (fun h => ?_) <;> try (exfalso; omega)) | (simp (disch := (first | omega | (simp only [vlen]; first | done | omega))) only [vvs, ↓va0, ↓va1, ↓va2, ↓va3, vb0, vb1, vb2, vb3, vb4, vb5, vb6, vb7, vb8, vb9, vb10, vz0, vz1, vy0, vx0, ↓reduceIte, Nat.reduceBEq, Nat.reduceEqDiff, Nat.reduceLT, Nat.reduceLeDiff, Nat.reduceAdd, Nat.reduceMul, Nat.reduceSub, reduceCtorEq, Int.reduceToNat]) | (refine Br.mk (fun h => ?_) (fun h => ?_)) | (refine BrN.mk (fun h => ?_) ?_) | (refine AltVC.mk ?_ ?_)
      exact fin_mk ⟨none, fun i j' h1 h2 => hb i j' h1 (by omega), rfl⟩
set_option maxRecDepth 10000 in
set_option maxHeartbeats 4000000 in
theorem tallyPumps_spec (m : Dm.Machine) (hm : m.ok) (w : List Int) (hw : okL ok64 w) : Dm.Spec Try.prog 7 [.ag (macD m), .sl 1 (i64s w)] (· = .v (.bool true)) := by
  refine spec_of_vc mixed Try.func7 c7 (by rw [show Try.f7.ntmps = _ from Try.ntmps7]; simp) ?_
  unfold m7 r7
  have hwl := maxLen_le hw.1
  have hW := wordCode_spec m hm w hwl
  by_cases hc : mcode m = 0
  · rw [if_pos hc] at hW
    by_cases hwc : wcode m.k w = 0
    · rw [hwc] at hW
      repeat' first | (refine Br.dec (fun h => ?_) (fun h => ?_) <;> try (exfalso; omega)) | (refine Br.eqi (fun h => ?_) (fun h => ?_) <;> try (exfalso; omega)) | (simp (disch := (first | omega | (simp only [vlen]; first | done | omega))) only [vvs, ↓va0, ↓va1, ↓va2, ↓va3, vb0, vb1, vb2, vb3, vb4, vb5, vb6, vb7, vb8, vb9, vb10, vz0, vz1, vy0, vx0, ↓reduceIte, Nat.reduceBEq, Nat.reduceEqDiff, Nat.reduceLT, Nat.reduceLeDiff, Nat.reduceAdd, Nat.reduceMul, Nat.reduceSub, reduceCtorEq, Int.reduceToNat]) | (refine Br.mk (fun h => ?_) (fun h => ?_)) | (refine BrN.mk (fun h => ?_) ?_) | (refine AltVC.mk ?_ ?_)
      refine CallVC.mk (pump_spec m hm w hwl hc hwc) ?_
      rintro _ ⟨r, hr, rfl⟩
      cases r with
      | none =>
        unfold pmD
        repeat' first | (refine Br.dec (fun h => ?_) (fun h => ?_) <;> try (exfalso; omega)) | (refine Br.eqi (fun h => ?_) (fun h => ?_) <;> try (exfalso; omega)) | (simp (disch := (first | omega | (simp only [vlen]; first | done | omega))) only [vvs, ↓va0, ↓va1, ↓va2, ↓va3, vb0, vb1, vb2, vb3, vb4, vb5, vb6, vb7, vb8, vb9, vb10, vz0, vz1, vy0, vx0, ↓reduceIte, Nat.reduceBEq, Nat.reduceEqDiff, Nat.reduceLT, Nat.reduceLeDiff, Nat.reduceAdd, Nat.reduceMul, Nat.reduceSub, reduceCtorEq, Int.reduceToNat]) | (refine Br.mk (fun h => ?_) (fun h => ?_)) | (refine BrN.mk (fun h => ?_) ?_) | (refine AltVC.mk ?_ ?_)
        refine CallVC.eq hW ?_
        repeat' first | (refine Br.dec (fun h => ?_) (fun h => ?_) <;> try (exfalso; omega)) | (refine Br.eqi (fun h => ?_) (fun h => ?_) <;> try (exfalso; omega)) | (simp (disch := (first | omega | (simp only [vlen]; first | done | omega))) only [vvs, ↓va0, ↓va1, ↓va2, ↓va3, vb0, vb1, vb2, vb3, vb4, vb5, vb6, vb7, vb8, vb9, vb10, vz0, vz1, vy0, vx0, ↓reduceIte, Nat.reduceBEq, Nat.reduceEqDiff, Nat.reduceLT, Nat.reduceLeDiff, Nat.reduceAdd, Nat.reduceMul, Nat.reduceSub, reduceCtorEq, Int.reduceToNat]) | (refine Br.mk (fun h => ?_) (fun h => ?_)) | (refine BrN.mk (fun h => ?_) ?_) | (refine AltVC.mk ?_ ?_)
        refine CallVC.mk (refPump_spec m hm w hwl hc hwc) ?_
        rintro _ ⟨q, hq, rfl⟩
        rw [← pump_uniq hr hq]
        unfold prD2
        repeat' first | (refine Br.dec (fun h => ?_) (fun h => ?_) <;> try (exfalso; omega)) | (refine Br.eqi (fun h => ?_) (fun h => ?_) <;> try (exfalso; omega)) | (simp (disch := (first | omega | (simp only [vlen]; first | done | omega))) only [vvs, ↓va0, ↓va1, ↓va2, ↓va3, vb0, vb1, vb2, vb3, vb4, vb5, vb6, vb7, vb8, vb9, vb10, vz0, vz1, vy0, vx0, ↓reduceIte, Nat.reduceBEq, Nat.reduceEqDiff, Nat.reduceLT, Nat.reduceLeDiff, Nat.reduceAdd, Nat.reduceMul, Nat.reduceSub, reduceCtorEq, Int.reduceToNat]) | (refine Br.mk (fun h => ?_) (fun h => ?_)) | (refine BrN.mk (fun h => ?_) ?_) | (refine AltVC.mk ?_ ?_)
        exact fin_mk (by simp)
      | some p =>
        obtain ⟨i, j⟩ := p
        unfold pmD
        repeat' first | (refine Br.dec (fun h => ?_) (fun h => ?_) <;> try (exfalso; omega)) | (refine Br.eqi (fun h => ?_) (fun h => ?_) <;> try (exfalso; omega)) | (simp (disch := (first | omega | (simp only [vlen]; first | done | omega))) only [vvs, ↓va0, ↓va1, ↓va2, ↓va3, vb0, vb1, vb2, vb3, vb4, vb5, vb6, vb7, vb8, vb9, vb10, vz0, vz1, vy0, vx0, ↓reduceIte, Nat.reduceBEq, Nat.reduceEqDiff, Nat.reduceLT, Nat.reduceLeDiff, Nat.reduceAdd, Nat.reduceMul, Nat.reduceSub, reduceCtorEq, Int.reduceToNat]) | (refine Br.mk (fun h => ?_) (fun h => ?_)) | (refine BrN.mk (fun h => ?_) ?_) | (refine AltVC.mk ?_ ?_)
        refine CallVC.eq hW ?_
        repeat' first | (refine Br.dec (fun h => ?_) (fun h => ?_) <;> try (exfalso; omega)) | (refine Br.eqi (fun h => ?_) (fun h => ?_) <;> try (exfalso; omega)) | (simp (disch := (first | omega | (simp only [vlen]; first | done | omega))) only [vvs, ↓va0, ↓va1, ↓va2, ↓va3, vb0, vb1, vb2, vb3, vb4, vb5, vb6, vb7, vb8, vb9, vb10, vz0, vz1, vy0, vx0, ↓reduceIte, Nat.reduceBEq, Nat.reduceEqDiff, Nat.reduceLT, Nat.reduceLeDiff, Nat.reduceAdd, Nat.reduceMul, Nat.reduceSub, reduceCtorEq, Int.reduceToNat]) | (refine Br.mk (fun h => ?_) (fun h => ?_)) | (refine BrN.mk (fun h => ?_) ?_) | (refine AltVC.mk ?_ ?_)
        refine CallVC.mk (refPump_spec m hm w hwl hc hwc) ?_
        rintro _ ⟨q, hq, rfl⟩
        rw [← pump_uniq hr hq]
        unfold prD2
        repeat' first | (refine Br.dec (fun h => ?_) (fun h => ?_) <;> try (exfalso; omega)) | (refine Br.eqi (fun h => ?_) (fun h => ?_) <;> try (exfalso; omega)) | (simp (disch := (first | omega | (simp only [vlen]; first | done | omega))) only [vvs, ↓va0, ↓va1, ↓va2, ↓va3, vb0, vb1, vb2, vb3, vb4, vb5, vb6, vb7, vb8, vb9, vb10, vz0, vz1, vy0, vx0, ↓reduceIte, Nat.reduceBEq, Nat.reduceEqDiff, Nat.reduceLT, Nat.reduceLeDiff, Nat.reduceAdd, Nat.reduceMul, Nat.reduceSub, reduceCtorEq, Int.reduceToNat]) | (refine Br.mk (fun h => ?_) (fun h => ?_)) | (refine BrN.mk (fun h => ?_) ?_) | (refine AltVC.mk ?_ ?_)
        exact fin_mk (by simp)
    · repeat' first | (refine Br.dec (fun h => ?_) (fun h => ?_) <;> try (exfalso; omega)) | (refine Br.eqi (fun h => ?_) (fun h => ?_) <;> try (exfalso; omega)) | (simp (disch := (first | omega | (simp only [vlen]; first | done | omega))) only [vvs, ↓va0, ↓va1, ↓va2, ↓va3, vb0, vb1, vb2, vb3, vb4, vb5, vb6, vb7, vb8, vb9, vb10, vz0, vz1, vy0, vx0, ↓reduceIte, Nat.reduceBEq, Nat.reduceEqDiff, Nat.reduceLT, Nat.reduceLeDiff, Nat.reduceAdd, Nat.reduceMul, Nat.reduceSub, reduceCtorEq, Int.reduceToNat]) | (refine Br.mk (fun h => ?_) (fun h => ?_)) | (refine BrN.mk (fun h => ?_) ?_) | (refine AltVC.mk ?_ ?_)
      refine CallVC.eq (pump_err m hm w hwl (wcode m.k w) (by rw [if_pos hc]) hwc) ?_
      repeat' first | (refine Br.dec (fun h => ?_) (fun h => ?_) <;> try (exfalso; omega)) | (refine Br.eqi (fun h => ?_) (fun h => ?_) <;> try (exfalso; omega)) | (simp (disch := (first | omega | (simp only [vlen]; first | done | omega))) only [vvs, ↓va0, ↓va1, ↓va2, ↓va3, vb0, vb1, vb2, vb3, vb4, vb5, vb6, vb7, vb8, vb9, vb10, vz0, vz1, vy0, vx0, ↓reduceIte, Nat.reduceBEq, Nat.reduceEqDiff, Nat.reduceLT, Nat.reduceLeDiff, Nat.reduceAdd, Nat.reduceMul, Nat.reduceSub, reduceCtorEq, Int.reduceToNat]) | (refine Br.mk (fun h => ?_) (fun h => ?_)) | (refine BrN.mk (fun h => ?_) ?_) | (refine AltVC.mk ?_ ?_)
      refine CallVC.eq hW ?_
      repeat' first | (refine Br.dec (fun h => ?_) (fun h => ?_) <;> try (exfalso; omega)) | (refine Br.eqi (fun h => ?_) (fun h => ?_) <;> try (exfalso; omega)) | (simp (disch := (first | omega | (simp only [vlen]; first | done | omega))) only [vvs, ↓va0, ↓va1, ↓va2, ↓va3, vb0, vb1, vb2, vb3, vb4, vb5, vb6, vb7, vb8, vb9, vb10, vz0, vz1, vy0, vx0, ↓reduceIte, Nat.reduceBEq, Nat.reduceEqDiff, Nat.reduceLT, Nat.reduceLeDiff, Nat.reduceAdd, Nat.reduceMul, Nat.reduceSub, reduceCtorEq, Int.reduceToNat]) | (refine Br.mk (fun h => ?_) (fun h => ?_)) | (refine BrN.mk (fun h => ?_) ?_) | (refine AltVC.mk ?_ ?_)
      exact fin_mk (by simp)
  · rw [if_neg hc] at hW
    repeat' first | (refine Br.dec (fun h => ?_) (fun h => ?_) <;> try (exfalso; omega)) | (refine Br.eqi (fun h => ?_) (fun h => ?_) <;> try (exfalso; omega)) | (simp (disch := (first | omega | (simp only [vlen]; first | done | omega))) only [vvs, ↓va0, ↓va1, ↓va2, ↓va3, vb0, vb1, vb2, vb3, vb4, vb5, vb6, vb7, vb8, vb9, vb10, vz0, vz1, vy0, vx0, ↓reduceIte, Nat.reduceBEq, Nat.reduceEqDiff, Nat.reduceLT, Nat.reduceLeDiff, Nat.reduceAdd, Nat.reduceMul, Nat.reduceSub, reduceCtorEq, Int.reduceToNat]) | (refine Br.mk (fun h => ?_) (fun h => ?_)) | (refine BrN.mk (fun h => ?_) ?_) | (refine AltVC.mk ?_ ?_)
    refine CallVC.eq (pump_err m hm w hwl (mcode m) (by rw [if_neg hc]) hc) ?_
    repeat' first | (refine Br.dec (fun h => ?_) (fun h => ?_) <;> try (exfalso; omega)) | (refine Br.eqi (fun h => ?_) (fun h => ?_) <;> try (exfalso; omega)) | (simp (disch := (first | omega | (simp only [vlen]; first | done | omega))) only [vvs, ↓va0, ↓va1, ↓va2, ↓va3, vb0, vb1, vb2, vb3, vb4, vb5, vb6, vb7, vb8, vb9, vb10, vz0, vz1, vy0, vx0, ↓reduceIte, Nat.reduceBEq, Nat.reduceEqDiff, Nat.reduceLT, Nat.reduceLeDiff, Nat.reduceAdd, Nat.reduceMul, Nat.reduceSub, reduceCtorEq, Int.reduceToNat]) | (refine Br.mk (fun h => ?_) (fun h => ?_)) | (refine BrN.mk (fun h => ?_) ?_) | (refine AltVC.mk ?_ ?_)
    refine CallVC.eq hW ?_
    repeat' first | (refine Br.dec (fun h => ?_) (fun h => ?_) <;> try (exfalso; omega)) | (refine Br.eqi (fun h => ?_) (fun h => ?_) <;> try (exfalso; omega)) | (simp (disch := (first | omega | (simp only [vlen]; first | done | omega))) only [vvs, ↓va0, ↓va1, ↓va2, ↓va3, vb0, vb1, vb2, vb3, vb4, vb5, vb6, vb7, vb8, vb9, vb10, vz0, vz1, vy0, vx0, ↓reduceIte, Nat.reduceBEq, Nat.reduceEqDiff, Nat.reduceLT, Nat.reduceLeDiff, Nat.reduceAdd, Nat.reduceMul, Nat.reduceSub, reduceCtorEq, Int.reduceToNat]) | (refine Br.mk (fun h => ?_) (fun h => ?_)) | (refine BrN.mk (fun h => ?_) ?_) | (refine AltVC.mk ?_ ?_)
    exact fin_mk (by simp)
end Go.Proofs.Ytgdmapheppkahaa
