/-
  table.Names; the law TableNames.
-/
import Derived.Test.YthjpahmcgpnogaaMake
import Derived.Test.YthjpahmcgpnogaaRefTab
import Derived.Test.YthjpahmcgpnogaaTChk
namespace Go.Proofs.Ythjpahmcgpnogaa
open Go.Dm
set_option linter.unusedSimpArgs false
set_option linter.unnecessarySimpa false
set_option linter.unusedVariables false
set_option linter.defProp false
theorem ov_one {g : Grammar} {w : List Int} {t : Nat → Nat → Nat → Bool} {x : Int} {i j : Nat} (h : i ≤ j) : ovB g w t [x] i j = oneB g w t x i j := by
  rw [Bool.eq_iff_iff, ovB_cons]
  constructor
  · rintro ⟨m, h1, h2, h3, h4⟩
    have : m = j := by simpa [ovB] using h4
    subst this; exact h3
  · intro h3; exact ⟨j, h, Nat.le_refl _, h3, by simp [ovB]⟩
theorem full_bit {g : Grammar} {w : List Int} {t : Nat → Nat → Nat} (h : Full g w t) {a i j : Nat} (hi : i ≤ j) (hj : j ≤ w.length) : tbB t a i j = true ↔ Der g w [g.k + a] i j := by
  rw [← h [g.k + a] i j (by omega), ov_one hi]
  unfold oneB
  rw [if_neg (by omega), show (g.k + (a : Int) - g.k).toNat = a by omega]
theorem tab_bit {g : Grammar} {w : List Int} {T : Nat → Nat → Nat → Bool} (h : ∀ l i j, i ≤ w.length → (ovB g w T l i j = true ↔ Der g w l i j)) {a i j : Nat} (hi : i ≤ j) (hj : j ≤ w.length) : T a i j = true ↔ Der g w [g.k + a] i j := by
  rw [← h [g.k + a] i j (by omega), ov_one hi]
  unfold oneB
  rw [if_neg (by omega), show (g.k + (a : Int) - g.k).toNat = a by omega]
theorem cw_of {g : Grammar} {w : List Int} (h : gwC g w = 0) : CW g w := ⟨valid_of (gw_of h).1, (wcode_ok (gw_of h).2).1⟩
theorem cv_of {g : Grammar} {w : List Int} (h : gwC g w = 0) : CV g w := ⟨valid_of (gw_of h).1, (wcode_ok (gw_of h).2).1⟩
set_option maxRecDepth 10000 in
set_option maxHeartbeats 4000000 in
theorem tnames_spec (g : Grammar) (hg : g.ok) (w : List Int) (hw : w.length ≤ 9223372036854775807) : Dm.Spec Try.prog 29 [.ag (graD g), .sl 1 (i64s w)] (fun d => (gwC g w = 0 ∧ ∃ S : Nat, d = .tu [iv .u32 S, iv .i64 0] ∧ S < 32 ∧ ∀ a : Nat, S.testBit a = true ↔ (a : Int) < g.n ∧ Der g w [g.k + a] 0 w.length) ∨ (gwC g w ≠ 0 ∧ d = .tu [iv .u32 0, iv .i64 (gwC g w)])) := by
  refine spec_of_vc mixed Try.func29 c29 (by rw [show Try.f29.ntmps = _ from Try.ntmps29]; simp) ?_
  unfold m29 r29
  have htc := tcheck_spec g hg w hw
  by_cases h0 : gwC g w = 0
  · have hc := cw_of h0
    have hwl := hc.w
    rw [h0] at htc
    repeat' first | (refine Br.dec (fun h => ?_) (fun h => ?_) <;> try (exfalso; omega)) | (refine Br.eqi (fun h => ?_) (fun h => ?_) <;> try (exfalso; omega)) | (simp (disch := (first | omega | (simp only [vlen]; first | done | omega))) only [vse, ↓va0, ↓va1, ↓va2, ↓va3, vb0, vb1, vb2, vb3, vb4, vb5, vb6, vb7, vb8, vb9, vb10, vz0, vz1, vy0, vx0, ↓reduceIte, Nat.reduceBEq, Nat.reduceEqDiff, Nat.reduceLT, Nat.reduceLeDiff, Nat.reduceAdd, Nat.reduceMul, Nat.reduceSub, reduceCtorEq, Int.reduceToNat]) | (refine Br.mk (fun h => ?_) (fun h => ?_)) | (refine BrN.mk (fun h => ?_) ?_) | (refine AltVC.mk ?_ ?_)
    refine CallVC.eq htc ?_
    repeat' first | (refine Br.dec (fun h => ?_) (fun h => ?_) <;> try (exfalso; omega)) | (refine Br.eqi (fun h => ?_) (fun h => ?_) <;> try (exfalso; omega)) | (simp (disch := (first | omega | (simp only [vlen]; first | done | omega))) only [vse, ↓va0, ↓va1, ↓va2, ↓va3, vb0, vb1, vb2, vb3, vb4, vb5, vb6, vb7, vb8, vb9, vb10, vz0, vz1, vy0, vx0, ↓reduceIte, Nat.reduceBEq, Nat.reduceEqDiff, Nat.reduceLT, Nat.reduceLeDiff, Nat.reduceAdd, Nat.reduceMul, Nat.reduceSub, reduceCtorEq, Int.reduceToNat]) | (refine Br.mk (fun h => ?_) (fun h => ?_)) | (refine BrN.mk (fun h => ?_) ?_) | (refine AltVC.mk ?_ ?_)
    refine CallVC.lendE [] [.ag (graD g), .sl 1 (i64s w)] [] (make_spec g w hc) (by simp) (by rfl) (by (simp (disch := (first | omega | (simp only [vlen]; first | done | omega))) only [vle0, ↓va0, ↓va1, ↓va2, ↓va3, vb0, vb1, vb2, vb3, vb4, vb5, vb6, vb7, vb8, vb9, vb10, vz0, vz1, vy0, vx0, ↓reduceIte, Nat.reduceBEq, Nat.reduceEqDiff, Nat.reduceLT, Nat.reduceLeDiff, Nat.reduceAdd, Nat.reduceMul, Nat.reduceSub, reduceCtorEq, Int.reduceToNat] <;> (repeat' first | rfl | apply And.intro))) ?_
    rintro _ _ ⟨rfl, L, t, rfl, hM, hF⟩
    have hfin : ∀ a : Nat, (t 0 w.length).testBit a = true ↔ (a : Int) < g.n ∧ Der g w [g.k + a] 0 w.length := fun a => by
      have h1 := full_bit hF (a := a) (Nat.zero_le _) (Nat.le_refl w.length)
      exact ⟨fun h => ⟨(hM.sd a 0 w.length h).2.2.1, h1.mp h⟩, fun h => h1.mpr h.2⟩
    have hlt := hM.si.lt 0 w.length
    have e0 : ((0 : Nat) : Int) = 0 := rfl
    repeat' first | (refine Br.dec (fun h => ?_) (fun h => ?_) <;> try (exfalso; omega)) | (refine Br.eqi (fun h => ?_) (fun h => ?_) <;> try (exfalso; omega)) | (simp (disch := (first | omega | (simp only [vlen]; first | done | omega))) only [vse, ↓va0, ↓va1, ↓va2, ↓va3, vb0, vb1, vb2, vb3, vb4, vb5, vb6, vb7, vb8, vb9, vb10, vz0, vz1, vy0, vx0, ↓reduceIte, Nat.reduceBEq, Nat.reduceEqDiff, Nat.reduceLT, Nat.reduceLeDiff, Nat.reduceAdd, Nat.reduceMul, Nat.reduceSub, reduceCtorEq, Int.reduceToNat]) | (refine Br.mk (fun h => ?_) (fun h => ?_)) | (refine BrN.mk (fun h => ?_) ?_) | (refine AltVC.mk ?_ ?_)
    refine BrK.mk (fun r hr he => ?_) (fun hnn => ?_)
    · obtain ⟨_, _, _, hR⟩ := se_in (i := 0) hM.si hr he
      repeat' first | (refine Br.dec (fun h => ?_) (fun h => ?_) <;> try (exfalso; omega)) | (refine Br.eqi (fun h => ?_) (fun h => ?_) <;> try (exfalso; omega)) | (simp (disch := (first | omega | (simp only [vlen]; first | done | omega))) only [vse, hR, ↓va0, ↓va1, ↓va2, ↓va3, vb0, vb1, vb2, vb3, vb4, vb5, vb6, vb7, vb8, vb9, vb10, vz0, vz1, vy0, vx0, ↓reduceIte, Nat.reduceBEq, Nat.reduceEqDiff, Nat.reduceLT, Nat.reduceLeDiff, Nat.reduceAdd, Nat.reduceMul, Nat.reduceSub, reduceCtorEq, Int.reduceToNat]) | (refine Br.mk (fun h => ?_) (fun h => ?_)) | (refine BrN.mk (fun h => ?_) ?_) | (refine AltVC.mk ?_ ?_)
      exact fin_mk (.inl ⟨h0, t 0 w.length, rfl, hlt, hfin⟩)
    · have hz := hM.si.no 0 w.length (se_out (i := 0) hnn)
      repeat' first | (refine Br.dec (fun h => ?_) (fun h => ?_) <;> try (exfalso; omega)) | (refine Br.eqi (fun h => ?_) (fun h => ?_) <;> try (exfalso; omega)) | (simp (disch := (first | omega | (simp only [vlen]; first | done | omega))) only [vse, ↓va0, ↓va1, ↓va2, ↓va3, vb0, vb1, vb2, vb3, vb4, vb5, vb6, vb7, vb8, vb9, vb10, vz0, vz1, vy0, vx0, ↓reduceIte, Nat.reduceBEq, Nat.reduceEqDiff, Nat.reduceLT, Nat.reduceLeDiff, Nat.reduceAdd, Nat.reduceMul, Nat.reduceSub, reduceCtorEq, Int.reduceToNat]) | (refine Br.mk (fun h => ?_) (fun h => ?_)) | (refine BrN.mk (fun h => ?_) ?_) | (refine AltVC.mk ?_ ?_)
      exact fin_mk (.inl ⟨h0, t 0 w.length, by rw [hz]; rfl, hlt, hfin⟩)
  · repeat' first | (refine Br.dec (fun h => ?_) (fun h => ?_) <;> try (exfalso; omega)) | (refine Br.eqi (fun h => ?_) (fun h => ?_) <;> try (exfalso; omega)) | (simp (disch := (first | omega | (simp only [vlen]; first | done | omega))) only [vse, ↓va0, ↓va1, ↓va2, ↓va3, vb0, vb1, vb2, vb3, vb4, vb5, vb6, vb7, vb8, vb9, vb10, vz0, vz1, vy0, vx0, ↓reduceIte, Nat.reduceBEq, Nat.reduceEqDiff, Nat.reduceLT, Nat.reduceLeDiff, Nat.reduceAdd, Nat.reduceMul, Nat.reduceSub, reduceCtorEq, Int.reduceToNat]) | (refine Br.mk (fun h => ?_) (fun h => ?_)) | (refine BrN.mk (fun h => ?_) ?_) | (refine AltVC.mk ?_ ?_)
    refine CallVC.eq htc ?_
    repeat' first | (refine Br.dec (fun h => ?_) (fun h => ?_) <;> try (exfalso; omega)) | (refine Br.eqi (fun h => ?_) (fun h => ?_) <;> try (exfalso; omega)) | (simp (disch := (first | omega | (simp only [vlen]; first | done | omega))) only [vse, ↓va0, ↓va1, ↓va2, ↓va3, vb0, vb1, vb2, vb3, vb4, vb5, vb6, vb7, vb8, vb9, vb10, vz0, vz1, vy0, vx0, ↓reduceIte, Nat.reduceBEq, Nat.reduceEqDiff, Nat.reduceLT, Nat.reduceLeDiff, Nat.reduceAdd, Nat.reduceMul, Nat.reduceSub, reduceCtorEq, Int.reduceToNat]) | (refine Br.mk (fun h => ?_) (fun h => ?_)) | (refine BrN.mk (fun h => ?_) ?_) | (refine AltVC.mk ?_ ?_)
    exact fin_mk (.inr ⟨h0, rfl⟩)
set_option maxRecDepth 10000 in
set_option maxHeartbeats 4000000 in
theorem tableNames_spec (g : Grammar) (hg : g.ok) (w : List Int) (hw : okL ok64 w) : Dm.Spec Try.prog 10 [.ag (graD g), .sl 1 (i64s w)] (· = .v (.bool true)) := by
  refine spec_of_vc mixed Try.func10 c10 (by rw [show Try.f10.ntmps = _ from Try.ntmps10]; simp) ?_
  unfold m10 r10
  have hwl := maxLen_le hw.1
  have hq := wordOf_spec g hg w hwl
  repeat' first | (refine Br.dec (fun h => ?_) (fun h => ?_) <;> try (exfalso; omega)) | (refine Br.eqi (fun h => ?_) (fun h => ?_) <;> try (exfalso; omega)) | (simp (disch := (first | omega | (simp only [vlen]; first | done | omega))) only [vct, ↓va0, ↓va1, ↓va2, ↓va3, vb0, vb1, vb2, vb3, vb4, vb5, vb6, vb7, vb8, vb9, vb10, vz0, vz1, vy0, vx0, ↓reduceIte, Nat.reduceBEq, Nat.reduceEqDiff, Nat.reduceLT, Nat.reduceLeDiff, Nat.reduceAdd, Nat.reduceMul, Nat.reduceSub, reduceCtorEq, Int.reduceToNat]) | (refine Br.mk (fun h => ?_) (fun h => ?_)) | (refine BrN.mk (fun h => ?_) ?_) | (refine AltVC.mk ?_ ?_)
  refine CallVC.mk (tnames_spec g hg w hwl) ?_
  rintro _ (⟨h0, S, rfl, hS, hb⟩ | ⟨h0, rfl⟩)
  · have hc := cv_of h0
    have hn := hc.v.n
    have hw12 := hc.w
    obtain ⟨N, hN⟩ : ∃ N : Nat, g.n = N := ⟨g.n.toNat, by omega⟩
    rw [h0] at hq
    repeat' first | (refine Br.dec (fun h => ?_) (fun h => ?_) <;> try (exfalso; omega)) | (refine Br.eqi (fun h => ?_) (fun h => ?_) <;> try (exfalso; omega)) | (simp (disch := (first | omega | (simp only [vlen]; first | done | omega))) only [vct, ↓va0, ↓va1, ↓va2, ↓va3, vb0, vb1, vb2, vb3, vb4, vb5, vb6, vb7, vb8, vb9, vb10, vz0, vz1, vy0, vx0, ↓reduceIte, Nat.reduceBEq, Nat.reduceEqDiff, Nat.reduceLT, Nat.reduceLeDiff, Nat.reduceAdd, Nat.reduceMul, Nat.reduceSub, reduceCtorEq, Int.reduceToNat]) | (refine Br.mk (fun h => ?_) (fun h => ?_)) | (refine BrN.mk (fun h => ?_) ?_) | (refine AltVC.mk ?_ ?_)
    refine CallVC.eq hq ?_
    repeat' first | (refine Br.dec (fun h => ?_) (fun h => ?_) <;> try (exfalso; omega)) | (refine Br.eqi (fun h => ?_) (fun h => ?_) <;> try (exfalso; omega)) | (simp (disch := (first | omega | (simp only [vlen]; first | done | omega))) only [vct, ↓va0, ↓va1, ↓va2, ↓va3, vb0, vb1, vb2, vb3, vb4, vb5, vb6, vb7, vb8, vb9, vb10, vz0, vz1, vy0, vx0, ↓reduceIte, Nat.reduceBEq, Nat.reduceEqDiff, Nat.reduceLT, Nat.reduceLeDiff, Nat.reduceAdd, Nat.reduceMul, Nat.reduceSub, reduceCtorEq, Int.reduceToNat]) | (refine Br.mk (fun h => ?_) (fun h => ?_)) | (refine BrN.mk (fun h => ?_) ?_) | (refine AltVC.mk ?_ ?_)
    refine CallVC.mk (table_spec g w hc N (w.length + 1) hN rfl) ?_
    rintro _ ⟨T, rfl, hT⟩
    have hN1 : 1 ≤ N := by omega
    repeat' first | (refine Br.dec (fun h => ?_) (fun h => ?_) <;> try (exfalso; omega)) | (refine Br.eqi (fun h => ?_) (fun h => ?_) <;> try (exfalso; omega)) | (simp (disch := (first | omega | (simp only [vlen]; first | done | omega))) only [vct, ↓va0, ↓va1, ↓va2, ↓va3, vb0, vb1, vb2, vb3, vb4, vb5, vb6, vb7, vb8, vb9, vb10, vz0, vz1, vy0, vx0, ↓reduceIte, Nat.reduceBEq, Nat.reduceEqDiff, Nat.reduceLT, Nat.reduceLeDiff, Nat.reduceAdd, Nat.reduceMul, Nat.reduceSub, reduceCtorEq, Int.reduceToNat]) | (refine Br.mk (fun h => ?_) (fun h => ?_)) | (refine BrN.mk (fun h => ?_) ?_) | (refine AltVC.mk ?_ ?_)
    refine LoopVC.mk (X := Nat) (fun i => [(8, iv .u32 (setOf (fun a => T a 0 w.length) i)), (33, iv .i64 i)]) (fun _ => [(0, ⟨4, [[iv .i64 g.k, iv .i64 g.n, iv .i64 g.start, .sl 2 (tbl rulD g.rules)]], true, false, .fix⟩)]) (fun i => N - i) (fun i => i ≤ N) 0 (Nat.zero_le _) ?_ ?_
    · (simp (disch := (first | omega | (simp only [vlen]; first | done | omega))) only [Fits_u, Fits_m, Fits_nil, List.length_append, vct, ↓va0, ↓va1, ↓va2, ↓va3, vb0, vb1, vb2, vb3, vb4, vb5, vb6, vb7, vb8, vb9, vb10, vz0, vz1, vy0, vx0, ↓reduceIte, Nat.reduceBEq, Nat.reduceEqDiff, Nat.reduceLT, Nat.reduceLeDiff, Nat.reduceAdd, Nat.reduceMul, Nat.reduceSub, reduceCtorEq, Int.reduceToNat] <;> (repeat' first | rfl | apply And.intro))
      all_goals first | rfl | skip
    · intro i hi
      have hlt := @setOf_lt (fun a => T a 0 w.length) i
      have hp5 : 2 ^ i ≤ 32 := Nat.le_trans (Nat.pow_le_pow_right (show 0 < 2 by omega) (show i ≤ 5 by omega)) (by decide)
      by_cases hiN : i < N
      · have hbl := @tbb_len (w.length + 1) (fun j => T i 0 j)
        cases hT0 : T i 0 w.length with
        | true =>
          repeat' first | (refine Br.dec (fun h => ?_) (fun h => ?_) <;> try (exfalso; omega)) | (refine Br.eqi (fun h => ?_) (fun h => ?_) <;> try (exfalso; omega)) | (simp (disch := (first | omega | (simp only [vlen]; first | done | omega))) only [vct, hT0, ↓va0, ↓va1, ↓va2, ↓va3, vb0, vb1, vb2, vb3, vb4, vb5, vb6, vb7, vb8, vb9, vb10, vz0, vz1, vy0, vx0, ↓reduceIte, Nat.reduceBEq, Nat.reduceEqDiff, Nat.reduceLT, Nat.reduceLeDiff, Nat.reduceAdd, Nat.reduceMul, Nat.reduceSub, reduceCtorEq, Int.reduceToNat]) | (refine Br.mk (fun h => ?_) (fun h => ?_)) | (refine BrN.mk (fun h => ?_) ?_) | (refine AltVC.mk ?_ ?_)
          rw [shlN (by omega), wrapu32_id (by omega)]
          refine loopK.mk (i + 1) (by simp (disch := (first | omega | (simp only [vlen]; first | done | omega))) only [↓va0, ↓va1, ↓va2, ↓va3, vb0, vb1, vb2, vb3, vb4, vb5, vb6, vb7, vb8, vb9, vb10, vz0, vz1, vy0, vx0, ↓reduceIte, Nat.reduceBEq, Nat.reduceEqDiff, Nat.reduceLT, Nat.reduceLeDiff, Nat.reduceAdd, Nat.reduceMul, Nat.reduceSub, reduceCtorEq, Int.reduceToNat]) (by omega) (by omega) ?_
          (simp (disch := (first | omega | (simp only [vlen]; first | done | omega))) only [Fits_u, Fits_m, Fits_nil, List.length_append, vct, ↓va0, ↓va1, ↓va2, ↓va3, vb0, vb1, vb2, vb3, vb4, vb5, vb6, vb7, vb8, vb9, vb10, vz0, vz1, vy0, vx0, ↓reduceIte, Nat.reduceBEq, Nat.reduceEqDiff, Nat.reduceLT, Nat.reduceLeDiff, Nat.reduceAdd, Nat.reduceMul, Nat.reduceSub, reduceCtorEq, Int.reduceToNat] <;> (repeat' first | rfl | apply And.intro))
          exact viEq (by rw [setOf_add (f := fun a => T a 0 w.length) hT0]; omega)
        | false =>
          repeat' first | (refine Br.dec (fun h => ?_) (fun h => ?_) <;> try (exfalso; omega)) | (refine Br.eqi (fun h => ?_) (fun h => ?_) <;> try (exfalso; omega)) | (simp (disch := (first | omega | (simp only [vlen]; first | done | omega))) only [vct, hT0, ↓va0, ↓va1, ↓va2, ↓va3, vb0, vb1, vb2, vb3, vb4, vb5, vb6, vb7, vb8, vb9, vb10, vz0, vz1, vy0, vx0, ↓reduceIte, Nat.reduceBEq, Nat.reduceEqDiff, Nat.reduceLT, Nat.reduceLeDiff, Nat.reduceAdd, Nat.reduceMul, Nat.reduceSub, reduceCtorEq, Int.reduceToNat]) | (refine Br.mk (fun h => ?_) (fun h => ?_)) | (refine BrN.mk (fun h => ?_) ?_) | (refine AltVC.mk ?_ ?_)
          refine loopK.mk (i + 1) (by simp (disch := (first | omega | (simp only [vlen]; first | done | omega))) only [↓va0, ↓va1, ↓va2, ↓va3, vb0, vb1, vb2, vb3, vb4, vb5, vb6, vb7, vb8, vb9, vb10, vz0, vz1, vy0, vx0, ↓reduceIte, Nat.reduceBEq, Nat.reduceEqDiff, Nat.reduceLT, Nat.reduceLeDiff, Nat.reduceAdd, Nat.reduceMul, Nat.reduceSub, reduceCtorEq, Int.reduceToNat]) (by omega) (by omega) ?_
          (simp (disch := (first | omega | (simp only [vlen]; first | done | omega))) only [Fits_u, Fits_m, Fits_nil, List.length_append, vct, ↓va0, ↓va1, ↓va2, ↓va3, vb0, vb1, vb2, vb3, vb4, vb5, vb6, vb7, vb8, vb9, vb10, vz0, vz1, vy0, vx0, ↓reduceIte, Nat.reduceBEq, Nat.reduceEqDiff, Nat.reduceLT, Nat.reduceLeDiff, Nat.reduceAdd, Nat.reduceMul, Nat.reduceSub, reduceCtorEq, Int.reduceToNat] <;> (repeat' first | rfl | apply And.intro))
          exact viEq (by rw [setOf_skip (f := fun a => T a 0 w.length) (by rw [hT0]; simp)])
      · have e : i = N := by omega
        subst e
        have hx : S = setOf (fun a => T a 0 w.length) i := by
          refine set_ext ?_ fun a ha => ?_
          · have h1 : ∀ a, S.testBit a = true → a < i := fun a h => by have := ((hb a).mp h).1; omega
            exact Nat.lt_pow_two_of_testBit S fun a ha => by
              cases hs : S.testBit a with
              | false => rfl
              | true => have := h1 a hs; omega
          · rw [Bool.eq_iff_iff, hb a]
            show _ ↔ T a 0 w.length = true
            rw [tab_bit hT (Nat.zero_le _) (Nat.le_refl _)]
            exact ⟨fun h => h.2, fun h => ⟨by omega, h⟩⟩
        rw [← hx]
        repeat' first | (refine Br.dec (fun h => ?_) (fun h => ?_) <;> try (exfalso; omega)) | (refine Br.eqi (fun h => ?_) (fun h => ?_) <;> try (exfalso; omega)) | (simp (disch := (first | omega | (simp only [vlen]; first | done | omega))) only [vct, ↓va0, ↓va1, ↓va2, ↓va3, vb0, vb1, vb2, vb3, vb4, vb5, vb6, vb7, vb8, vb9, vb10, vz0, vz1, vy0, vx0, ↓reduceIte, Nat.reduceBEq, Nat.reduceEqDiff, Nat.reduceLT, Nat.reduceLeDiff, Nat.reduceAdd, Nat.reduceMul, Nat.reduceSub, reduceCtorEq, Int.reduceToNat]) | (refine Br.mk (fun h => ?_) (fun h => ?_)) | (refine BrN.mk (fun h => ?_) ?_) | (refine AltVC.mk ?_ ?_)
        all_goals exact fin_mk (vbEq (by simp))
  · repeat' first | (refine Br.dec (fun h => ?_) (fun h => ?_) <;> try (exfalso; omega)) | (refine Br.eqi (fun h => ?_) (fun h => ?_) <;> try (exfalso; omega)) | (simp (disch := (first | omega | (simp only [vlen]; first | done | omega))) only [vct, ↓va0, ↓va1, ↓va2, ↓va3, vb0, vb1, vb2, vb3, vb4, vb5, vb6, vb7, vb8, vb9, vb10, vz0, vz1, vy0, vx0, ↓reduceIte, Nat.reduceBEq, Nat.reduceEqDiff, Nat.reduceLT, Nat.reduceLeDiff, Nat.reduceAdd, Nat.reduceMul, Nat.reduceSub, reduceCtorEq, Int.reduceToNat]) | (refine Br.mk (fun h => ?_) (fun h => ?_)) | (refine BrN.mk (fun h => ?_) ?_) | (refine AltVC.mk ?_ ?_)
    refine CallVC.eq hq ?_
    repeat' first | (refine Br.dec (fun h => ?_) (fun h => ?_) <;> try (exfalso; omega)) | (refine Br.eqi (fun h => ?_) (fun h => ?_) <;> try (exfalso; omega)) | (simp (disch := (first | omega | (simp only [vlen]; first | done | omega))) only [vct, ↓va0, ↓va1, ↓va2, ↓va3, vb0, vb1, vb2, vb3, vb4, vb5, vb6, vb7, vb8, vb9, vb10, vz0, vz1, vy0, vx0, ↓reduceIte, Nat.reduceBEq, Nat.reduceEqDiff, Nat.reduceLT, Nat.reduceLeDiff, Nat.reduceAdd, Nat.reduceMul, Nat.reduceSub, reduceCtorEq, Int.reduceToNat]) | (refine Br.mk (fun h => ?_) (fun h => ?_)) | (refine BrN.mk (fun h => ?_) ?_) | (refine AltVC.mk ?_ ?_)
    all_goals exact fin_mk (vbEq (by simp))
end Go.Proofs.Ythjpahmcgpnogaa
