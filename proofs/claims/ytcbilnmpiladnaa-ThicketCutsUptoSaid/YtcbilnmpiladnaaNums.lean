/-
  Thickets: the numbers by which one is kept.
-/
import Derived.Test.YtcbilnmpiladnaaSound
namespace Go.Proofs.Ytcbilnmpiladnaa
open Go.Dm
set_option linter.unusedSimpArgs false
set_option linter.unnecessarySimpa false
set_option linter.unusedVariables false
set_option linter.defProp false

def nmW (w : List Int) : List Int := (w.length : Int) :: w
def nmWs (ws : List (List Int)) : List Int := ws.flatMap nmW
def nmS (s : Dm.Spot) : List Int := [s.sign, s.fr, s.to, (s.ways.length : Int)] ++ nmWs s.ways
def numsTo (t : Dm.Thicket) (c : Nat) : List Int := [t.root, (t.spots.length : Int)] ++ (t.spots.take c).flatMap nmS
def nums (t : Dm.Thicket) : List Int := numsTo t t.spots.length
theorem flat_succ {α : Type} {f : α → List Int} {l : List α} {c : Nat} {d : α} (h : c < l.length) : (l.take (c + 1)).flatMap f = (l.take c).flatMap f ++ f (l.getD c d) := by
  rw [take_succ_getD h d, List.flatMap_append]; simp
theorem flat_le {α : Type} {f : α → List Int} {l : List α} {c : Nat} : ((l.take c).flatMap f).length ≤ (l.flatMap f).length := by
  have h : l.flatMap f = (l.take c).flatMap f ++ (l.drop c).flatMap f := by rw [← List.flatMap_append, List.take_append_drop]
  rw [h, List.length_append]; omega
theorem numsTo_succ {t : Dm.Thicket} {c : Nat} (h : c < t.spots.length) : numsTo t (c + 1) = numsTo t c ++ nmS (t.spots.getD c default) := by
  unfold numsTo; rw [flat_succ h, List.append_assoc]
theorem numsTo_le {t : Dm.Thicket} {c : Nat} : (numsTo t c).length ≤ (nums t).length := by
  have := @flat_le _ nmS t.spots c
  unfold nums numsTo
  rw [List.length_append, List.length_append, List.take_length]
  omega
/-- In a spot, behind so many ways. -/
def numsIn (t : Dm.Thicket) (c q : Nat) : List Int := numsTo t c ++ ([(t.spots.getD c default).sign, (t.spots.getD c default).fr, (t.spots.getD c default).to, ((t.spots.getD c default).ways.length : Int)] ++ nmWs ((t.spots.getD c default).ways.take q))
theorem numsIn_zero {t : Dm.Thicket} {c : Nat} : numsIn t c 0 = numsTo t c ++ [(t.spots.getD c default).sign, (t.spots.getD c default).fr, (t.spots.getD c default).to, ((t.spots.getD c default).ways.length : Int)] := by simp [numsIn, nmWs]
theorem numsIn_succ {t : Dm.Thicket} {c q : Nat} (h : q < (t.spots.getD c default).ways.length) : numsIn t c (q + 1) = (numsIn t c q ++ [(((t.spots.getD c default).ways.getD q default).length : Int)]) ++ (t.spots.getD c default).ways.getD q default := by
  unfold numsIn nmWs
  rw [flat_succ (f := nmW) (d := default) h]
  simp [nmW]
theorem numsIn_all {t : Dm.Thicket} {c q : Nat} (hc : c < t.spots.length) (h : q = (t.spots.getD c default).ways.length) : numsIn t c q = numsTo t (c + 1) := by
  rw [numsTo_succ hc, h]; unfold numsIn; rw [List.take_length]; rfl
theorem numsIn_le {t : Dm.Thicket} {c q : Nat} (hc : c < t.spots.length) : (numsIn t c q).length ≤ (nums t).length := by
  have h1 := @numsTo_le t (c + 1)
  rw [numsTo_succ hc, List.length_append] at h1
  have h2 := @flat_le _ nmW (t.spots.getD c default).ways q
  unfold numsIn
  rw [List.length_append]
  unfold nmS at h1
  rw [List.length_append] at h1 ⊢
  unfold nmWs at h1 ⊢
  simp only [List.length_cons, List.length_nil] at h1 ⊢
  omega
theorem i64s_four {l : List Int} {a b c d : Int} : i64s l ++ [[D.v (.int .i64 a)], [D.v (.int .i64 b)], [D.v (.int .i64 c)], [D.v (.int .i64 d)]] = i64s (l ++ [a, b, c, d]) := by simp [i64s]
set_option maxRecDepth 10000 in
set_option maxHeartbeats 4000000 in
theorem store.numbers_spec (t : Dm.Thicket) (ht : t.ok) (hb : (nums t).length ≤ 4294967296) : Dm.Spec Try.prog 31 [.ag (thiD t)] (· = .sl 1 (i64s (nums t))) := by
  refine spec_of_vc mixed Try.func31 c31 (by rw [show Try.f31.ntmps = _ from Try.ntmps31]; simp) ?_
  unfold m31 r31
  have hsl := maxLen_le ht.1.1
  have hw : ∀ i, i < t.spots.length → (wys t i).length ≤ 9223372036854775807 ∧ ∀ w, w ∈ wys t i → w.length ≤ 9223372036854775807 := fun i hi => by
    have h1 := (ht.1.2 _ (getD_mem' (l := t.spots) (i := i) hi)).2.2.2
    exact ⟨maxLen_le h1.1, fun w hw => maxLen_le (h1.2 w hw).1⟩
  repeat' first | (refine Br.dec (fun h => ?_) (fun h => ?_) <;> try (exfalso; omega)) | (refine Br.eqi (fun h => ?_) (fun h => ?_) <;> try (exfalso; omega)) | (simp (disch := (first | omega | (simp only [vlen]; first | done | omega))) only [vsd, ↓va0, ↓va1, ↓va2, ↓va3, vb0, vb1, vb2, vb3, vb4, vb5, vb6, vb7, vb8, vb9, vb10, vz0, vz1, vy0, vx0, ↓reduceIte, Nat.reduceBEq, Nat.reduceEqDiff, Nat.reduceLT, Nat.reduceLeDiff, Nat.reduceAdd, Nat.reduceMul, Nat.reduceSub, reduceCtorEq, Int.reduceToNat]) | (refine Br.mk (fun h => ?_) (fun h => ?_)) | (refine BrN.mk (fun h => ?_) ?_) | (refine AltVC.mk ?_ ?_)
  refine LoopVC.mk (X := Nat) (fun c => [(3, .ref 2 1 0 (numsTo t c).length), (17, iv .i64 c)]) (fun c => [(0, ⟨2, [thiD t], true, false, .fix⟩), (2, ⟨1, i64s (numsTo t c), true, false, .arr⟩)]) (fun c => t.spots.length - c) (fun c => c ≤ t.spots.length) 0 (Nat.zero_le _) ?_ ?_
  · (simp (disch := (first | omega | (simp only [vlen]; first | done | omega))) only [Fits_u, Fits_m, Fits_nil, List.length_append, vsd, ↓va0, ↓va1, ↓va2, ↓va3, vb0, vb1, vb2, vb3, vb4, vb5, vb6, vb7, vb8, vb9, vb10, vz0, vz1, vy0, vx0, ↓reduceIte, Nat.reduceBEq, Nat.reduceEqDiff, Nat.reduceLT, Nat.reduceLeDiff, Nat.reduceAdd, Nat.reduceMul, Nat.reduceSub, reduceCtorEq, Int.reduceToNat] <;> (repeat' first | rfl | apply And.intro))
    all_goals first | rfl | trace_state
  · intro c hc
    by_cases hcl : c < t.spots.length
    · have hwi := hw c hcl
      unfold wys at hwi
      have hl0 := @numsTo_le t c
      have hl1 := @numsIn_le t c 0 hcl
      rw [numsIn_zero, List.length_append] at hl1
      simp only [List.length_cons, List.length_nil] at hl1
      repeat' first | (refine Br.dec (fun h => ?_) (fun h => ?_) <;> try (exfalso; omega)) | (refine Br.eqi (fun h => ?_) (fun h => ?_) <;> try (exfalso; omega)) | (simp (disch := (first | omega | (simp only [vlen]; first | done | omega))) only [vsd, i64s_four, ↓va0, ↓va1, ↓va2, ↓va3, vb0, vb1, vb2, vb3, vb4, vb5, vb6, vb7, vb8, vb9, vb10, vz0, vz1, vy0, vx0, ↓reduceIte, Nat.reduceBEq, Nat.reduceEqDiff, Nat.reduceLT, Nat.reduceLeDiff, Nat.reduceAdd, Nat.reduceMul, Nat.reduceSub, reduceCtorEq, Int.reduceToNat]) | (refine Br.mk (fun h => ?_) (fun h => ?_)) | (refine BrN.mk (fun h => ?_) ?_) | (refine AltVC.mk ?_ ?_)
      rw [← numsIn_zero]
      refine LoopVC.mk (X := Nat) (fun q => [(3, .ref 2 1 0 (numsIn t c q).length), (36, iv .i64 q)]) (fun q => [(0, ⟨2, [thiD t], true, false, .fix⟩), (2, ⟨1, i64s (numsIn t c q), true, false, .arr⟩)]) (fun q => (t.spots.getD c default).ways.length - q) (fun q => q ≤ (t.spots.getD c default).ways.length) 0 (Nat.zero_le _) ?_ ?_
      · (simp (disch := (first | omega | (simp only [vlen]; first | done | omega))) only [Fits_u, Fits_m, Fits_nil, List.length_append, vsd, ↓va0, ↓va1, ↓va2, ↓va3, vb0, vb1, vb2, vb3, vb4, vb5, vb6, vb7, vb8, vb9, vb10, vz0, vz1, vy0, vx0, ↓reduceIte, Nat.reduceBEq, Nat.reduceEqDiff, Nat.reduceLT, Nat.reduceLeDiff, Nat.reduceAdd, Nat.reduceMul, Nat.reduceSub, reduceCtorEq, Int.reduceToNat] <;> (repeat' first | rfl | apply And.intro))
        all_goals first | (rw [numsIn_zero, List.length_append]; rfl) | trace_state
      · intro q hq
        by_cases hql : q < (t.spots.getD c default).ways.length
        · have hm : (t.spots.getD c default).ways.getD q default ∈ (t.spots.getD c default).ways := getD_mem' hql
          have hwl := hwi.2 _ hm
          have hl2 := @numsIn_le t c (q + 1) hcl
          rw [numsIn_succ hql, List.length_append, List.length_append, List.length_singleton] at hl2
          repeat' first | (refine Br.dec (fun h => ?_) (fun h => ?_) <;> try (exfalso; omega)) | (refine Br.eqi (fun h => ?_) (fun h => ?_) <;> try (exfalso; omega)) | (simp (disch := (first | omega | (simp only [vlen]; first | done | omega))) only [vsd, ↓va0, ↓va1, ↓va2, ↓va3, vb0, vb1, vb2, vb3, vb4, vb5, vb6, vb7, vb8, vb9, vb10, vz0, vz1, vy0, vx0, ↓reduceIte, Nat.reduceBEq, Nat.reduceEqDiff, Nat.reduceLT, Nat.reduceLeDiff, Nat.reduceAdd, Nat.reduceMul, Nat.reduceSub, reduceCtorEq, Int.reduceToNat]) | (refine Br.mk (fun h => ?_) (fun h => ?_)) | (refine BrN.mk (fun h => ?_) ?_) | (refine AltVC.mk ?_ ?_)
          refine loopK.mk (q + 1) (by simp (disch := (first | omega | (simp only [vlen]; first | done | omega))) only [↓va0, ↓va1, ↓va2, ↓va3, vb0, vb1, vb2, vb3, vb4, vb5, vb6, vb7, vb8, vb9, vb10, vz0, vz1, vy0, vx0, ↓reduceIte, Nat.reduceBEq, Nat.reduceEqDiff, Nat.reduceLT, Nat.reduceLeDiff, Nat.reduceAdd, Nat.reduceMul, Nat.reduceSub, reduceCtorEq, Int.reduceToNat]) (by omega) (by omega) ?_
          rw [numsIn_succ hql]
          (simp (disch := (first | omega | (simp only [vlen]; first | done | omega))) only [Fits_u, Fits_m, Fits_nil, List.length_append, vsd, List.length_append, ↓va0, ↓va1, ↓va2, ↓va3, vb0, vb1, vb2, vb3, vb4, vb5, vb6, vb7, vb8, vb9, vb10, vz0, vz1, vy0, vx0, ↓reduceIte, Nat.reduceBEq, Nat.reduceEqDiff, Nat.reduceLT, Nat.reduceLeDiff, Nat.reduceAdd, Nat.reduceMul, Nat.reduceSub, reduceCtorEq, Int.reduceToNat] <;> (repeat' first | rfl | apply And.intro))
          all_goals trace_state
        · repeat' first | (refine Br.dec (fun h => ?_) (fun h => ?_) <;> try (exfalso; omega)) | (refine Br.eqi (fun h => ?_) (fun h => ?_) <;> try (exfalso; omega)) | (simp (disch := (first | omega | (simp only [vlen]; first | done | omega))) only [vsd, ↓va0, ↓va1, ↓va2, ↓va3, vb0, vb1, vb2, vb3, vb4, vb5, vb6, vb7, vb8, vb9, vb10, vz0, vz1, vy0, vx0, ↓reduceIte, Nat.reduceBEq, Nat.reduceEqDiff, Nat.reduceLT, Nat.reduceLeDiff, Nat.reduceAdd, Nat.reduceMul, Nat.reduceSub, reduceCtorEq, Int.reduceToNat]) | (refine Br.mk (fun h => ?_) (fun h => ?_)) | (refine BrN.mk (fun h => ?_) ?_) | (refine AltVC.mk ?_ ?_)
          refine loopK.mk (c + 1) (by simp (disch := (first | omega | (simp only [vlen]; first | done | omega))) only [↓va0, ↓va1, ↓va2, ↓va3, vb0, vb1, vb2, vb3, vb4, vb5, vb6, vb7, vb8, vb9, vb10, vz0, vz1, vy0, vx0, ↓reduceIte, Nat.reduceBEq, Nat.reduceEqDiff, Nat.reduceLT, Nat.reduceLeDiff, Nat.reduceAdd, Nat.reduceMul, Nat.reduceSub, reduceCtorEq, Int.reduceToNat]) (by omega) (by omega) ?_
          rw [← numsIn_all hcl (q := q) (by omega)]
          (simp (disch := (first | omega | (simp only [vlen]; first | done | omega))) only [Fits_u, Fits_m, Fits_nil, List.length_append, vsd, ↓va0, ↓va1, ↓va2, ↓va3, vb0, vb1, vb2, vb3, vb4, vb5, vb6, vb7, vb8, vb9, vb10, vz0, vz1, vy0, vx0, ↓reduceIte, Nat.reduceBEq, Nat.reduceEqDiff, Nat.reduceLT, Nat.reduceLeDiff, Nat.reduceAdd, Nat.reduceMul, Nat.reduceSub, reduceCtorEq, Int.reduceToNat] <;> (repeat' first | rfl | apply And.intro))
          all_goals trace_state
    · have e : c = t.spots.length := by omega
      repeat' first | (refine Br.dec (fun h => ?_) (fun h => ?_) <;> try (exfalso; omega)) | (refine Br.eqi (fun h => ?_) (fun h => ?_) <;> try (exfalso; omega)) | (simp (disch := (first | omega | (simp only [vlen]; first | done | omega))) only [vsd, ↓va0, ↓va1, ↓va2, ↓va3, vb0, vb1, vb2, vb3, vb4, vb5, vb6, vb7, vb8, vb9, vb10, vz0, vz1, vy0, vx0, ↓reduceIte, Nat.reduceBEq, Nat.reduceEqDiff, Nat.reduceLT, Nat.reduceLeDiff, Nat.reduceAdd, Nat.reduceMul, Nat.reduceSub, reduceCtorEq, Int.reduceToNat]) | (refine Br.mk (fun h => ?_) (fun h => ?_)) | (refine BrN.mk (fun h => ?_) ?_) | (refine AltVC.mk ?_ ?_)
      exact fin_mk (by rw [e]; rfl)
set_option maxRecDepth 10000 in
set_option maxHeartbeats 4000000 in
theorem coppicerref.Numbers_spec (t : Dm.Thicket) (ht : t.ok) (hb : (nums t).length ≤ 4294967296) : Dm.Spec Try.prog 35 [.ag (thiD t)] (· = .sl 1 (i64s (nums t))) := by
  refine spec_of_vc mixed Try.func35 c35 (by rw [show Try.f35.ntmps = _ from Try.ntmps35]; simp) ?_
  unfold m35 r35
  have hsl := maxLen_le ht.1.1
  have hw : ∀ i, i < t.spots.length → (wys t i).length ≤ 9223372036854775807 ∧ ∀ w, w ∈ wys t i → w.length ≤ 9223372036854775807 := fun i hi => by
    have h1 := (ht.1.2 _ (getD_mem' (l := t.spots) (i := i) hi)).2.2.2
    exact ⟨maxLen_le h1.1, fun w hw => maxLen_le (h1.2 w hw).1⟩
  repeat' first | (refine Br.dec (fun h => ?_) (fun h => ?_) <;> try (exfalso; omega)) | (refine Br.eqi (fun h => ?_) (fun h => ?_) <;> try (exfalso; omega)) | (simp (disch := (first | omega | (simp only [vlen]; first | done | omega))) only [vsd, ↓va0, ↓va1, ↓va2, ↓va3, vb0, vb1, vb2, vb3, vb4, vb5, vb6, vb7, vb8, vb9, vb10, vz0, vz1, vy0, vx0, ↓reduceIte, Nat.reduceBEq, Nat.reduceEqDiff, Nat.reduceLT, Nat.reduceLeDiff, Nat.reduceAdd, Nat.reduceMul, Nat.reduceSub, reduceCtorEq, Int.reduceToNat]) | (refine Br.mk (fun h => ?_) (fun h => ?_)) | (refine BrN.mk (fun h => ?_) ?_) | (refine AltVC.mk ?_ ?_)
  refine LoopVC.mk (X := Nat) (fun c => [(3, .ref 2 1 0 (numsTo t c).length), (17, iv .i64 c)]) (fun c => [(0, ⟨2, [thiD t], true, false, .fix⟩), (2, ⟨1, i64s (numsTo t c), true, false, .arr⟩)]) (fun c => t.spots.length - c) (fun c => c ≤ t.spots.length) 0 (Nat.zero_le _) ?_ ?_
  · (simp (disch := (first | omega | (simp only [vlen]; first | done | omega))) only [Fits_u, Fits_m, Fits_nil, List.length_append, vsd, ↓va0, ↓va1, ↓va2, ↓va3, vb0, vb1, vb2, vb3, vb4, vb5, vb6, vb7, vb8, vb9, vb10, vz0, vz1, vy0, vx0, ↓reduceIte, Nat.reduceBEq, Nat.reduceEqDiff, Nat.reduceLT, Nat.reduceLeDiff, Nat.reduceAdd, Nat.reduceMul, Nat.reduceSub, reduceCtorEq, Int.reduceToNat] <;> (repeat' first | rfl | apply And.intro))
    all_goals first | rfl | trace_state
  · intro c hc
    by_cases hcl : c < t.spots.length
    · have hwi := hw c hcl
      unfold wys at hwi
      have hl0 := @numsTo_le t c
      have hl1 := @numsIn_le t c 0 hcl
      rw [numsIn_zero, List.length_append] at hl1
      simp only [List.length_cons, List.length_nil] at hl1
      repeat' first | (refine Br.dec (fun h => ?_) (fun h => ?_) <;> try (exfalso; omega)) | (refine Br.eqi (fun h => ?_) (fun h => ?_) <;> try (exfalso; omega)) | (simp (disch := (first | omega | (simp only [vlen]; first | done | omega))) only [vsd, i64s_four, ↓va0, ↓va1, ↓va2, ↓va3, vb0, vb1, vb2, vb3, vb4, vb5, vb6, vb7, vb8, vb9, vb10, vz0, vz1, vy0, vx0, ↓reduceIte, Nat.reduceBEq, Nat.reduceEqDiff, Nat.reduceLT, Nat.reduceLeDiff, Nat.reduceAdd, Nat.reduceMul, Nat.reduceSub, reduceCtorEq, Int.reduceToNat]) | (refine Br.mk (fun h => ?_) (fun h => ?_)) | (refine BrN.mk (fun h => ?_) ?_) | (refine AltVC.mk ?_ ?_)
      rw [← numsIn_zero]
      refine LoopVC.mk (X := Nat) (fun q => [(3, .ref 2 1 0 (numsIn t c q).length), (36, iv .i64 q)]) (fun q => [(0, ⟨2, [thiD t], true, false, .fix⟩), (2, ⟨1, i64s (numsIn t c q), true, false, .arr⟩)]) (fun q => (t.spots.getD c default).ways.length - q) (fun q => q ≤ (t.spots.getD c default).ways.length) 0 (Nat.zero_le _) ?_ ?_
      · (simp (disch := (first | omega | (simp only [vlen]; first | done | omega))) only [Fits_u, Fits_m, Fits_nil, List.length_append, vsd, ↓va0, ↓va1, ↓va2, ↓va3, vb0, vb1, vb2, vb3, vb4, vb5, vb6, vb7, vb8, vb9, vb10, vz0, vz1, vy0, vx0, ↓reduceIte, Nat.reduceBEq, Nat.reduceEqDiff, Nat.reduceLT, Nat.reduceLeDiff, Nat.reduceAdd, Nat.reduceMul, Nat.reduceSub, reduceCtorEq, Int.reduceToNat] <;> (repeat' first | rfl | apply And.intro))
        all_goals first | (rw [numsIn_zero, List.length_append]; rfl) | trace_state
      · intro q hq
        by_cases hql : q < (t.spots.getD c default).ways.length
        · have hm : (t.spots.getD c default).ways.getD q default ∈ (t.spots.getD c default).ways := getD_mem' hql
          have hwl := hwi.2 _ hm
          have hl2 := @numsIn_le t c (q + 1) hcl
          rw [numsIn_succ hql, List.length_append, List.length_append, List.length_singleton] at hl2
          repeat' first | (refine Br.dec (fun h => ?_) (fun h => ?_) <;> try (exfalso; omega)) | (refine Br.eqi (fun h => ?_) (fun h => ?_) <;> try (exfalso; omega)) | (simp (disch := (first | omega | (simp only [vlen]; first | done | omega))) only [vsd, ↓va0, ↓va1, ↓va2, ↓va3, vb0, vb1, vb2, vb3, vb4, vb5, vb6, vb7, vb8, vb9, vb10, vz0, vz1, vy0, vx0, ↓reduceIte, Nat.reduceBEq, Nat.reduceEqDiff, Nat.reduceLT, Nat.reduceLeDiff, Nat.reduceAdd, Nat.reduceMul, Nat.reduceSub, reduceCtorEq, Int.reduceToNat]) | (refine Br.mk (fun h => ?_) (fun h => ?_)) | (refine BrN.mk (fun h => ?_) ?_) | (refine AltVC.mk ?_ ?_)
          refine loopK.mk (q + 1) (by simp (disch := (first | omega | (simp only [vlen]; first | done | omega))) only [↓va0, ↓va1, ↓va2, ↓va3, vb0, vb1, vb2, vb3, vb4, vb5, vb6, vb7, vb8, vb9, vb10, vz0, vz1, vy0, vx0, ↓reduceIte, Nat.reduceBEq, Nat.reduceEqDiff, Nat.reduceLT, Nat.reduceLeDiff, Nat.reduceAdd, Nat.reduceMul, Nat.reduceSub, reduceCtorEq, Int.reduceToNat]) (by omega) (by omega) ?_
          rw [numsIn_succ hql]
          (simp (disch := (first | omega | (simp only [vlen]; first | done | omega))) only [Fits_u, Fits_m, Fits_nil, List.length_append, vsd, List.length_append, ↓va0, ↓va1, ↓va2, ↓va3, vb0, vb1, vb2, vb3, vb4, vb5, vb6, vb7, vb8, vb9, vb10, vz0, vz1, vy0, vx0, ↓reduceIte, Nat.reduceBEq, Nat.reduceEqDiff, Nat.reduceLT, Nat.reduceLeDiff, Nat.reduceAdd, Nat.reduceMul, Nat.reduceSub, reduceCtorEq, Int.reduceToNat] <;> (repeat' first | rfl | apply And.intro))
          all_goals trace_state
        · repeat' first | (refine Br.dec (fun h => ?_) (fun h => ?_) <;> try (exfalso; omega)) | (refine Br.eqi (fun h => ?_) (fun h => ?_) <;> try (exfalso; omega)) | (simp (disch := (first | omega | (simp only [vlen]; first | done | omega))) only [vsd, ↓va0, ↓va1, ↓va2, ↓va3, vb0, vb1, vb2, vb3, vb4, vb5, vb6, vb7, vb8, vb9, vb10, vz0, vz1, vy0, vx0, ↓reduceIte, Nat.reduceBEq, Nat.reduceEqDiff, Nat.reduceLT, Nat.reduceLeDiff, Nat.reduceAdd, Nat.reduceMul, Nat.reduceSub, reduceCtorEq, Int.reduceToNat]) | (refine Br.mk (fun h => ?_) (fun h => ?_)) | (refine BrN.mk (fun h => ?_) ?_) | (refine AltVC.mk ?_ ?_)
          refine loopK.mk (c + 1) (by simp (disch := (first | omega | (simp only [vlen]; first | done | omega))) only [↓va0, ↓va1, ↓va2, ↓va3, vb0, vb1, vb2, vb3, vb4, vb5, vb6, vb7, vb8, vb9, vb10, vz0, vz1, vy0, vx0, ↓reduceIte, Nat.reduceBEq, Nat.reduceEqDiff, Nat.reduceLT, Nat.reduceLeDiff, Nat.reduceAdd, Nat.reduceMul, Nat.reduceSub, reduceCtorEq, Int.reduceToNat]) (by omega) (by omega) ?_
          rw [← numsIn_all hcl (q := q) (by omega)]
          (simp (disch := (first | omega | (simp only [vlen]; first | done | omega))) only [Fits_u, Fits_m, Fits_nil, List.length_append, vsd, ↓va0, ↓va1, ↓va2, ↓va3, vb0, vb1, vb2, vb3, vb4, vb5, vb6, vb7, vb8, vb9, vb10, vz0, vz1, vy0, vx0, ↓reduceIte, Nat.reduceBEq, Nat.reduceEqDiff, Nat.reduceLT, Nat.reduceLeDiff, Nat.reduceAdd, Nat.reduceMul, Nat.reduceSub, reduceCtorEq, Int.reduceToNat] <;> (repeat' first | rfl | apply And.intro))
          all_goals trace_state
    · have e : c = t.spots.length := by omega
      repeat' first | (refine Br.dec (fun h => ?_) (fun h => ?_) <;> try (exfalso; omega)) | (refine Br.eqi (fun h => ?_) (fun h => ?_) <;> try (exfalso; omega)) | (simp (disch := (first | omega | (simp only [vlen]; first | done | omega))) only [vsd, ↓va0, ↓va1, ↓va2, ↓va3, vb0, vb1, vb2, vb3, vb4, vb5, vb6, vb7, vb8, vb9, vb10, vz0, vz1, vy0, vx0, ↓reduceIte, Nat.reduceBEq, Nat.reduceEqDiff, Nat.reduceLT, Nat.reduceLeDiff, Nat.reduceAdd, Nat.reduceMul, Nat.reduceSub, reduceCtorEq, Int.reduceToNat]) | (refine Br.mk (fun h => ?_) (fun h => ?_)) | (refine BrN.mk (fun h => ?_) ?_) | (refine AltVC.mk ?_ ?_)
      exact fin_mk (by rw [e]; rfl)
end Go.Proofs.Ytcbilnmpiladnaa
