/-
  Words of bytes: too large or not; lists of numbers alike; how far two words begin alike.
-/
import Derived.Test.YtdcdldfleeilnaaBytes
import Derived.Test.YtdcdldfleeilnaaDmX
namespace Go.Proofs.Ytdcdldfleeilnaa
open Go.Dm
set_option linter.unusedSimpArgs false
set_option linter.unnecessarySimpa false
set_option linter.unusedVariables false

theorem u8_inj {a b : UInt8} (h : (a.toNat : Int) = b.toNat) : a = b := UInt8.toNat_inj.1 (by omega)
theorem u8_ne {a b : UInt8} (h : ¬ (a.toNat : Int) = b.toNat) : a ≠ b := fun e => h (by rw [e])

set_option maxHeartbeats 1000000 in
theorem ints_vc (a b : List Int) (ha : a.length ≤ 1099511627776) : vc Try.prog m9 [.f (finQ r9 (· = .v (.bool (decide (a = b)))))] (S.init [.sl 1 (i64s a), .sl 1 (i64s b)]) := by
  unfold m9 r9
  repeat' first | (refine Br.dec (fun h => ?_) (fun h => ?_) <;> try (exfalso; omega)) | (refine Br.eqi (fun h => ?_) (fun h => ?_) <;> try (exfalso; omega)) | (simp (disch := (first | omega | (simp only [vlen]; first | done | omega))) only [↓va0, ↓va1, ↓va2, ↓va3, vb0, vb1, vb2, vb3, vb4, vb5, vb6, vb7, vb8, vb9, vb10, vz0, vz1, vy0, vx0, ↓reduceIte, Nat.reduceBEq, Nat.reduceEqDiff, Nat.reduceLT, Nat.reduceLeDiff, Nat.reduceAdd, Nat.reduceMul, Nat.reduceSub, reduceCtorEq, Int.reduceToNat]) | (refine Br.mk (fun h => ?_) (fun h => ?_)) | (refine BrN.mk (fun h => ?_) ?_) | (refine AltVC.mk ?_ ?_)
  · have hl : a.length = b.length := by omega
    refine LoopVC.mk (X := Nat) (fun k => [(5, iv .i64 k)]) (fun _ => []) (fun k => a.length - k) (fun k => k ≤ a.length ∧ a.take k = b.take k) 0 ⟨by omega, by simp⟩ ?_ ?_
    · (simp (disch := (first | omega | (simp only [vlen]; first | done | omega))) only [Fits_u, Fits_m, Fits_nil, List.length_append, ↓va0, ↓va1, ↓va2, ↓va3, vb0, vb1, vb2, vb3, vb4, vb5, vb6, vb7, vb8, vb9, vb10, vz0, vz1, vy0, vx0, ↓reduceIte, Nat.reduceBEq, Nat.reduceEqDiff, Nat.reduceLT, Nat.reduceLeDiff, Nat.reduceAdd, Nat.reduceMul, Nat.reduceSub, reduceCtorEq, Int.reduceToNat] <;> (repeat' first | rfl | apply And.intro))
    · rintro k ⟨hk, he⟩
      repeat' first | (refine Br.dec (fun h => ?_) (fun h => ?_) <;> try (exfalso; omega)) | (refine Br.eqi (fun h => ?_) (fun h => ?_) <;> try (exfalso; omega)) | (simp (disch := (first | omega | (simp only [vlen]; first | done | omega))) only [↓va0, ↓va1, ↓va2, ↓va3, vb0, vb1, vb2, vb3, vb4, vb5, vb6, vb7, vb8, vb9, vb10, vz0, vz1, vy0, vx0, ↓reduceIte, Nat.reduceBEq, Nat.reduceEqDiff, Nat.reduceLT, Nat.reduceLeDiff, Nat.reduceAdd, Nat.reduceMul, Nat.reduceSub, reduceCtorEq, Int.reduceToNat]) | (refine Br.mk (fun h => ?_) (fun h => ?_)) | (refine BrN.mk (fun h => ?_) ?_) | (refine AltVC.mk ?_ ?_)
      · refine loopK.mk (k + 1) (by simp (disch := (first | omega | (simp only [vlen]; first | done | omega))) only [↓va0, ↓va1, ↓va2, ↓va3, vb0, vb1, vb2, vb3, vb4, vb5, vb6, vb7, vb8, vb9, vb10, vz0, vz1, vy0, vx0, ↓reduceIte, Nat.reduceBEq, Nat.reduceEqDiff, Nat.reduceLT, Nat.reduceLeDiff, Nat.reduceAdd, Nat.reduceMul, Nat.reduceSub, reduceCtorEq, Int.reduceToNat]) ⟨by omega, take_succ_eq he (by omega) (by omega) 0 (by assumption)⟩ (by omega) ?_
        (simp (disch := (first | omega | (simp only [vlen]; first | done | omega))) only [Fits_u, Fits_m, Fits_nil, List.length_append, ↓va0, ↓va1, ↓va2, ↓va3, vb0, vb1, vb2, vb3, vb4, vb5, vb6, vb7, vb8, vb9, vb10, vz0, vz1, vy0, vx0, ↓reduceIte, Nat.reduceBEq, Nat.reduceEqDiff, Nat.reduceLT, Nat.reduceLeDiff, Nat.reduceAdd, Nat.reduceMul, Nat.reduceSub, reduceCtorEq, Int.reduceToNat] <;> (repeat' first | rfl | apply And.intro))
      · refine fin_mk (vbEq ?_)
        rw [decide_eq_false]
        intro e
        subst e
        contradiction
      · refine fin_mk (vbEq ?_)
        have e : k = a.length := by omega
        subst e
        rw [List.take_length, hl, List.take_length] at he
        rw [decide_eq_true he]
  · refine fin_mk (vbEq ?_)
    rw [decide_eq_false]
    intro e
    subst e
    contradiction
theorem ints_spec (a b : List Int) (ha : a.length ≤ 1099511627776) : Dm.Spec Try.prog 9 [.sl 1 (i64s a), .sl 1 (i64s b)] (· = .v (.bool (decide (a = b)))) :=
  spec_of_vc mixed Try.func9 c9 (by rw [show Try.f9.ntmps = _ from Try.ntmps9]; simp) (ints_vc a b ha)

set_option maxHeartbeats 1000000 in
theorem alike_vc (a b : List UInt8) (ha : a.length ≤ 1099511627776) : vc Try.prog m12 [.f (finQ r12 (· = .v (.int .i64 (alk a b))))] (S.init [.sl 1 (u8s a), .sl 1 (u8s b)]) := by
  unfold m12 r12
  repeat' first | (refine Br.dec (fun h => ?_) (fun h => ?_) <;> try (exfalso; omega)) | (refine Br.eqi (fun h => ?_) (fun h => ?_) <;> try (exfalso; omega)) | (simp (disch := (first | omega | (simp only [vlen]; first | done | omega))) only [↓va0, ↓va1, ↓va2, ↓va3, vb0, vb1, vb2, vb3, vb4, vb5, vb6, vb7, vb8, vb9, vb10, vz0, vz1, vy0, vx0, ↓reduceIte, Nat.reduceBEq, Nat.reduceEqDiff, Nat.reduceLT, Nat.reduceLeDiff, Nat.reduceAdd, Nat.reduceMul, Nat.reduceSub, reduceCtorEq, Int.reduceToNat]) | (refine Br.mk (fun h => ?_) (fun h => ?_)) | (refine BrN.mk (fun h => ?_) ?_) | (refine AltVC.mk ?_ ?_)
  refine LoopVC.mk (X := Nat) (fun k => [(5, iv .i64 k)]) (fun _ => []) (fun k => a.length - k) (fun k => k ≤ a.length ∧ k ≤ b.length ∧ ∀ i, i < k → a.getD i 0 = b.getD i 0) 0 ⟨by omega, by omega, by omega⟩ ?_ ?_
  · (simp (disch := (first | omega | (simp only [vlen]; first | done | omega))) only [Fits_u, Fits_m, Fits_nil, List.length_append, ↓va0, ↓va1, ↓va2, ↓va3, vb0, vb1, vb2, vb3, vb4, vb5, vb6, vb7, vb8, vb9, vb10, vz0, vz1, vy0, vx0, ↓reduceIte, Nat.reduceBEq, Nat.reduceEqDiff, Nat.reduceLT, Nat.reduceLeDiff, Nat.reduceAdd, Nat.reduceMul, Nat.reduceSub, reduceCtorEq, Int.reduceToNat] <;> (repeat' first | rfl | apply And.intro))
  · rintro k ⟨h1, h2, h3⟩
    repeat' first | (refine Br.dec (fun h => ?_) (fun h => ?_) <;> try (exfalso; omega)) | (refine Br.eqi (fun h => ?_) (fun h => ?_) <;> try (exfalso; omega)) | (simp (disch := (first | omega | (simp only [vlen]; first | done | omega))) only [↓va0, ↓va1, ↓va2, ↓va3, vb0, vb1, vb2, vb3, vb4, vb5, vb6, vb7, vb8, vb9, vb10, vz0, vz1, vy0, vx0, ↓reduceIte, Nat.reduceBEq, Nat.reduceEqDiff, Nat.reduceLT, Nat.reduceLeDiff, Nat.reduceAdd, Nat.reduceMul, Nat.reduceSub, reduceCtorEq, Int.reduceToNat]) | (refine Br.mk (fun h => ?_) (fun h => ?_)) | (refine BrN.mk (fun h => ?_) ?_) | (refine AltVC.mk ?_ ?_)
    · refine loopK.mk (k + 1) (by simp (disch := (first | omega | (simp only [vlen]; first | done | omega))) only [↓va0, ↓va1, ↓va2, ↓va3, vb0, vb1, vb2, vb3, vb4, vb5, vb6, vb7, vb8, vb9, vb10, vz0, vz1, vy0, vx0, ↓reduceIte, Nat.reduceBEq, Nat.reduceEqDiff, Nat.reduceLT, Nat.reduceLeDiff, Nat.reduceAdd, Nat.reduceMul, Nat.reduceSub, reduceCtorEq, Int.reduceToNat]) ⟨by omega, by omega, fun i hi => ?_⟩ (by omega) ?_
      · by_cases e : i = k
        · subst e; exact u8_inj (by assumption)
        · exact h3 i (by omega)
      · (simp (disch := (first | omega | (simp only [vlen]; first | done | omega))) only [Fits_u, Fits_m, Fits_nil, List.length_append, ↓va0, ↓va1, ↓va2, ↓va3, vb0, vb1, vb2, vb3, vb4, vb5, vb6, vb7, vb8, vb9, vb10, vz0, vz1, vy0, vx0, ↓reduceIte, Nat.reduceBEq, Nat.reduceEqDiff, Nat.reduceLT, Nat.reduceLeDiff, Nat.reduceAdd, Nat.reduceMul, Nat.reduceSub, reduceCtorEq, Int.reduceToNat] <;> (repeat' first | rfl | apply And.intro))
    · refine fin_mk (viEq ?_)
      rw [alk_is h1 h2 h3 (.inr (.inr (u8_ne (by assumption))))]
    · refine fin_mk (viEq ?_)
      rw [alk_is h1 h2 h3 (.inr (.inl (by omega)))]
    · refine fin_mk (viEq ?_)
      rw [alk_is h1 h2 h3 (.inl (by omega))]
theorem alike_spec (a b : List UInt8) (ha : a.length ≤ 1099511627776) : Dm.Spec Try.prog 12 [.sl 1 (u8s a), .sl 1 (u8s b)] (· = .v (.int .i64 (alk a b))) :=
  spec_of_vc mixed Try.func12 c12 (by rw [show Try.f12.ntmps = _ from Try.ntmps12]; simp) (alike_vc a b ha)

/-- What power.Large answers. -/
def largeCode (ws : List (List UInt8)) : Int := if ∃ w, w ∈ ws ∧ 60 < w.length then 1 else 0
set_option maxHeartbeats 1000000 in
theorem large_vc (ws : List (List UInt8)) (hw : ws.length ≤ 1099511627776) : vc Try.prog m21 [.f (finQ r21 (· = .v (.int .i64 (largeCode ws))))] (S.init [.sl 1 (rows u8s ws)]) := by
  unfold m21 r21
  repeat' first | (refine Br.dec (fun h => ?_) (fun h => ?_) <;> try (exfalso; omega)) | (refine Br.eqi (fun h => ?_) (fun h => ?_) <;> try (exfalso; omega)) | (simp (disch := (first | omega | (simp only [vlen]; first | done | omega))) only [↓va0, ↓va1, ↓va2, ↓va3, vb0, vb1, vb2, vb3, vb4, vb5, vb6, vb7, vb8, vb9, vb10, vz0, vz1, vy0, vx0, ↓reduceIte, Nat.reduceBEq, Nat.reduceEqDiff, Nat.reduceLT, Nat.reduceLeDiff, Nat.reduceAdd, Nat.reduceMul, Nat.reduceSub, reduceCtorEq, Int.reduceToNat]) | (refine Br.mk (fun h => ?_) (fun h => ?_)) | (refine BrN.mk (fun h => ?_) ?_) | (refine AltVC.mk ?_ ?_)
  refine LoopVC.mk (X := Nat) (fun k => [(7, iv .i64 k)]) (fun _ => []) (fun k => ws.length - k) (fun k => k ≤ ws.length ∧ ∀ i, i < k → ¬ 60 < (ws.getD i default).length) 0 ⟨by omega, by omega⟩ ?_ ?_
  · (simp (disch := (first | omega | (simp only [vlen]; first | done | omega))) only [Fits_u, Fits_m, Fits_nil, List.length_append, ↓va0, ↓va1, ↓va2, ↓va3, vb0, vb1, vb2, vb3, vb4, vb5, vb6, vb7, vb8, vb9, vb10, vz0, vz1, vy0, vx0, ↓reduceIte, Nat.reduceBEq, Nat.reduceEqDiff, Nat.reduceLT, Nat.reduceLeDiff, Nat.reduceAdd, Nat.reduceMul, Nat.reduceSub, reduceCtorEq, Int.reduceToNat] <;> (repeat' first | rfl | apply And.intro))
  · rintro k ⟨h1, h2⟩
    repeat' first | (refine Br.dec (fun h => ?_) (fun h => ?_) <;> try (exfalso; omega)) | (refine Br.eqi (fun h => ?_) (fun h => ?_) <;> try (exfalso; omega)) | (simp (disch := (first | omega | (simp only [vlen]; first | done | omega))) only [↓va0, ↓va1, ↓va2, ↓va3, vb0, vb1, vb2, vb3, vb4, vb5, vb6, vb7, vb8, vb9, vb10, vz0, vz1, vy0, vx0, ↓reduceIte, Nat.reduceBEq, Nat.reduceEqDiff, Nat.reduceLT, Nat.reduceLeDiff, Nat.reduceAdd, Nat.reduceMul, Nat.reduceSub, reduceCtorEq, Int.reduceToNat]) | (refine Br.mk (fun h => ?_) (fun h => ?_)) | (refine BrN.mk (fun h => ?_) ?_) | (refine AltVC.mk ?_ ?_)
    · refine fin_mk (viEq ?_)
      rw [largeCode, if_pos ⟨_, getD_mem' (i := k) (by omega), by omega⟩]
    · refine loopK.mk (k + 1) (by simp (disch := (first | omega | (simp only [vlen]; first | done | omega))) only [↓va0, ↓va1, ↓va2, ↓va3, vb0, vb1, vb2, vb3, vb4, vb5, vb6, vb7, vb8, vb9, vb10, vz0, vz1, vy0, vx0, ↓reduceIte, Nat.reduceBEq, Nat.reduceEqDiff, Nat.reduceLT, Nat.reduceLeDiff, Nat.reduceAdd, Nat.reduceMul, Nat.reduceSub, reduceCtorEq, Int.reduceToNat]) ⟨by omega, all_take_succ (p := fun w : List UInt8 => ¬ 60 < w.length) h2 (by omega)⟩ (by omega) ?_
      (simp (disch := (first | omega | (simp only [vlen]; first | done | omega))) only [Fits_u, Fits_m, Fits_nil, List.length_append, ↓va0, ↓va1, ↓va2, ↓va3, vb0, vb1, vb2, vb3, vb4, vb5, vb6, vb7, vb8, vb9, vb10, vz0, vz1, vy0, vx0, ↓reduceIte, Nat.reduceBEq, Nat.reduceEqDiff, Nat.reduceLT, Nat.reduceLeDiff, Nat.reduceAdd, Nat.reduceMul, Nat.reduceSub, reduceCtorEq, Int.reduceToNat] <;> (repeat' first | rfl | apply And.intro))
    · refine fin_mk (viEq ?_)
      rw [largeCode, if_neg]
      rintro ⟨w, hm, hl⟩
      obtain ⟨i, hi, rfl⟩ := mem_getD hm
      exact h2 i (by omega) hl
theorem large_spec (ws : List (List UInt8)) (hw : ws.length ≤ 1099511627776) : Dm.Spec Try.prog 21 [.sl 1 (rows u8s ws)] (· = .v (.int .i64 (largeCode ws))) :=
  spec_of_vc mixed Try.func21 c21 (by rw [show Try.f21.ntmps = _ from Try.ntmps21]; simp) (large_vc ws hw)
theorem large1 (w : List UInt8) : largeCode [w] = if 60 < w.length then 1 else 0 := by simp [largeCode]
theorem large2 (u v : List UInt8) : largeCode [u, v] = if 60 < u.length ∨ 60 < v.length then 1 else 0 := by simp [largeCode]
theorem large1_spec (w : List UInt8) (h : w.length ≤ 60) : Dm.Spec Try.prog 21 [.sl 1 [[.sl 1 (u8s w)]]] (· = .v (.int .i64 0)) := by
  have := large_spec [w] (by simp)
  rwa [large1, if_neg (by omega)] at this
theorem large1_big (w : List UInt8) (h : 60 < w.length) : Dm.Spec Try.prog 21 [.sl 1 [[.sl 1 (u8s w)]]] (· = .v (.int .i64 1)) := by
  have := large_spec [w] (by simp)
  rwa [large1, if_pos (by omega)] at this
theorem large2_spec (u v : List UInt8) (h : u.length ≤ 60 ∧ v.length ≤ 60) : Dm.Spec Try.prog 21 [.sl 1 [[.sl 1 (u8s u)], [.sl 1 (u8s v)]]] (· = .v (.int .i64 0)) := by
  have := large_spec [u, v] (by simp)
  rwa [large2, if_neg (by omega)] at this
theorem large2_big (u v : List UInt8) (h : 60 < u.length ∨ 60 < v.length) : Dm.Spec Try.prog 21 [.sl 1 [[.sl 1 (u8s u)], [.sl 1 (u8s v)]]] (· = .v (.int .i64 1)) := by
  have := large_spec [u, v] (by simp)
  rwa [large2, if_pos (by omega)] at this
end Go.Proofs.Ytdcdldfleeilnaa
