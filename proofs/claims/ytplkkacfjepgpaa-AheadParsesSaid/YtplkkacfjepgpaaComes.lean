/-
  grammar.Comes: the names that come of the first one; the law GrammarComes.
-/
import Derived.Test.YtplkkacfjepgpaaMakes
set_option linter.unusedVariables false
set_option linter.unusedSimpArgs false
set_option linter.unnecessarySimpa false
namespace Go.Proofs.Ytplkkacfjepgpaa
open Go.Dm
inductive Rch (g : Grammar) : Nat → Prop
  | start : Rch g g.start.toNat
  | step {r : Rule} {s : Int} (hr : r ∈ g.rules) (hl : Rch g r.left.toNat) (hs : s ∈ r.right) (hk : g.k ≤ s) : Rch g (s - g.k).toNat
theorem rch_lt {g : Grammar} (hv : Valid g) {x : Nat} (h : Rch g x) : x < g.n.toNat := by
  have := hv.start
  cases h with
  | start => omega
  | step hr hl hs hk => have := hv.right _ hr _ hs; omega
open Classical in
noncomputable def comeSet (g : Grammar) : Nat := setOf (fun i => decide (Rch g i)) g.n.toNat
theorem come_is {g : Grammar} (hv : Valid g) {S : Nat} (hS : S < 2 ^ g.n.toNat) (h1 : ∀ x, S.testBit x = true → Rch g x) (h2 : S.testBit g.start.toNat = true)
    (h3 : ∀ r, r ∈ g.rules → S.testBit r.left.toNat = true → ∀ s, s ∈ r.right → g.k ≤ s → S.testBit (s - g.k).toNat = true) : S = comeSet g := by
  have all : ∀ x, Rch g x → S.testBit x = true := fun x h => by
    induction h with
    | start => exact h2
    | step hr _ hs hk ih => exact h3 _ hr ih _ hs hk
  unfold comeSet
  refine set_ext hS fun i _ => ?_
  rw [Bool.eq_iff_iff, @decide_eq_true_eq _ (_)]
  exact ⟨h1 i, all i⟩
theorem add_or : ∀ S, S < 32 → ∀ i, i < 5 → S.testBit i = false → S + 2 ^ i = S ||| 2 ^ i := by decide +kernel
abbrev gOb (g : Grammar) : Ob := ⟨4, [[iv .i64 g.k, iv .i64 g.n, iv .i64 g.start, .sl 2 (tbl rulD g.rules)]], true, false, .fix⟩
abbrev rOb (r : Rule) : Ob := ⟨2, [[iv .i64 r.left, .sl 1 (i64s r.right)]], true, false, .fix⟩
set_option maxRecDepth 10000 in
set_option maxHeartbeats 4000000 in
theorem reach_spec (g : Grammar) (hv : Valid g) : Dm.Spec Try.prog 71 [.ag (graD g)] (· = iv .u32 (comeSet g)) := by
  refine spec_of_vc mixed Try.func71 c71 (by rw [show Try.f71.ntmps = _ from Try.ntmps71]; simp) ?_
  unfold m71 r71
  have hk := hv.k
  have hn := hv.n
  have hst := hv.start
  have hlen := hv.len
  have hp : 2 ^ g.n.toNat ≤ 32 := Nat.le_trans (Nat.pow_le_pow_right (show 0 < 2 by omega) (show g.n.toNat ≤ 5 by omega)) (by decide)
  repeat' first | ((first | refine Br.dec ?_ ?_ | refine Br.eqi ?_ ?_) <;> intro h <;> try (exfalso; omega)) | (simp (disch := (first | omega | (simp only [vlen]; first | done | omega))) only [↓vAq, vBq, ↓reduceIte, Nat.reduceBEq, Nat.reduceEqDiff, Nat.reduceLT, Nat.reduceLeDiff, Nat.reduceAdd, Nat.reduceMul, Nat.reduceSub, reduceCtorEq, Int.reduceToNat]) | (refine Br.mk ?_ ?_ <;> intro h) | (refine BrN.mk (fun h => ?_) ?_) | (refine AltVC.mk ?_ ?_)
  have hs2 := @pow_le31 g.start.toNat (by omega)
  rw [shlN (by omega)]
  refine LoopVC.mk (X := Nat) (fun S => [(3, iv .u32 S)]) (fun _ => [(0, gOb g)]) (fun S => 32 - S) (fun S => S < 2 ^ g.n.toNat ∧ S.testBit g.start.toNat = true ∧ ∀ x, S.testBit x = true → Rch g x) (2 ^ g.start.toNat) ⟨Nat.pow_lt_pow_right (by omega) (by omega), Nat.testBit_two_pow_self, fun x hx => by
    by_cases e : x = g.start.toNat
    · rw [e]; exact .start
    · rw [Nat.testBit_two_pow_of_ne (by omega)] at hx; cases hx⟩ ?_ ?_
  · (simp (disch := (first | omega | (simp only [vlen]; first | done | omega))) only [Fits_u, Fits_m, Fits_nil, List.length_append, ↓vAq, vBq, ↓reduceIte, Nat.reduceBEq, Nat.reduceEqDiff, Nat.reduceLT, Nat.reduceLeDiff, Nat.reduceAdd, Nat.reduceMul, Nat.reduceSub, reduceCtorEq, Int.reduceToNat] <;> (repeat' first | rfl | apply And.intro))
  · rintro W ⟨hW, hb, hs⟩
    repeat' first | ((first | refine Br.dec ?_ ?_ | refine Br.eqi ?_ ?_) <;> intro h <;> try (exfalso; omega)) | (simp (disch := (first | omega | (simp only [vlen]; first | done | omega))) only [↓vAq, vBq, ↓reduceIte, Nat.reduceBEq, Nat.reduceEqDiff, Nat.reduceLT, Nat.reduceLeDiff, Nat.reduceAdd, Nat.reduceMul, Nat.reduceSub, reduceCtorEq, Int.reduceToNat]) | (refine Br.mk ?_ ?_ <;> intro h) | (refine BrN.mk (fun h => ?_) ?_) | (refine AltVC.mk ?_ ?_)
    refine LoopVC.mk (X := Nat × Nat) (fun x => [(3, iv .u32 x.1), (16, iv .i64 x.2)]) (fun _ => [(0, gOb g)]) (fun x => g.rules.length - x.2) (fun x => x.2 ≤ g.rules.length ∧ x.1 < 2 ^ g.n.toNat ∧ W ≤ x.1 ∧ x.1.testBit g.start.toNat = true ∧ (∀ y, x.1.testBit y = true → Rch g y) ∧ (x.1 = W → ∀ j, j < x.2 → W.testBit (g.rules.getD j default).left.toNat = true → ∀ s, s ∈ (g.rules.getD j default).right → g.k ≤ s → W.testBit (s - g.k).toNat = true)) (W, 0) ⟨by simp, hW, by simp, hb, hs, fun _ j hj => by simp at hj⟩ ?_ ?_
    · (simp (disch := (first | omega | (simp only [vlen]; first | done | omega))) only [Fits_u, Fits_m, Fits_nil, List.length_append, ↓vAq, vBq, ↓reduceIte, Nat.reduceBEq, Nat.reduceEqDiff, Nat.reduceLT, Nat.reduceLeDiff, Nat.reduceAdd, Nat.reduceMul, Nat.reduceSub, reduceCtorEq, Int.reduceToNat] <;> (repeat' first | rfl | apply And.intro))
    · rintro ⟨S, i⟩ ⟨h1, h2, h3, h4, h5, h6⟩
      simp only at h1 h2 h3 h4 h5 h6
      repeat' first | ((first | refine Br.dec ?_ ?_ | refine Br.eqi ?_ ?_) <;> intro h <;> try (exfalso; omega)) | (simp (disch := (first | omega | (simp only [vlen]; first | done | omega))) only [↓vAq, vBq, ↓reduceIte, Nat.reduceBEq, Nat.reduceEqDiff, Nat.reduceLT, Nat.reduceLeDiff, Nat.reduceAdd, Nat.reduceMul, Nat.reduceSub, reduceCtorEq, Int.reduceToNat]) | (refine Br.mk ?_ ?_ <;> intro h) | (refine BrN.mk (fun h => ?_) ?_) | (refine AltVC.mk ?_ ?_)
      · have hm : g.rules.getD i default ∈ g.rules := getD_mem' (by omega)
        have hl := hv.left _ hm
        have hq := hv.long _ hm
        refine LoopVC.mk (X := Nat × Nat) (fun x => [(3, iv .u32 x.1), (23, iv .i64 x.2)]) (fun _ => [(0, gOb g), (1, rOb (g.rules.getD i default))]) (fun x => (g.rules.getD i default).right.length - x.2) (fun x => x.2 ≤ (g.rules.getD i default).right.length ∧ x.1 < 2 ^ g.n.toNat ∧ S ≤ x.1 ∧ x.1.testBit g.start.toNat = true ∧ (∀ y, x.1.testBit y = true → Rch g y) ∧ (x.1 = W → ∀ p, p < x.2 → W.testBit (g.rules.getD i default).left.toNat = true → g.k ≤ (g.rules.getD i default).right.getD p 0 → W.testBit ((g.rules.getD i default).right.getD p 0 - g.k).toNat = true)) (S, 0) ⟨by simp, h2, by simp, h4, h5, fun _ j hj => by simp at hj⟩ ?_ ?_
        · (simp (disch := (first | omega | (simp only [vlen]; first | done | omega))) only [Fits_u, Fits_m, Fits_nil, List.length_append, ↓vAq, vBq, ↓reduceIte, Nat.reduceBEq, Nat.reduceEqDiff, Nat.reduceLT, Nat.reduceLeDiff, Nat.reduceAdd, Nat.reduceMul, Nat.reduceSub, reduceCtorEq, Int.reduceToNat] <;> (repeat' first | rfl | apply And.intro))
        · rintro ⟨T, q⟩ ⟨k1, k2, k3, k4, k5, k6⟩
          simp only at k1 k2 k3 k4 k5 k6
          have hT32 : (T : Int) ≤ 4294967295 := by omega
          have hleft : (g.rules.getD i default).left = (((g.rules.getD i default).left.toNat : Nat) : Int) := by omega
          have hsp := has_spec T (g.rules.getD i default).left.toNat hT32 (by omega)
          rw [← hleft] at hsp
          repeat' first | ((first | refine Br.dec ?_ ?_ | refine Br.eqi ?_ ?_) <;> intro h <;> try (exfalso; omega)) | (simp (disch := (first | omega | (simp only [vlen]; first | done | omega))) only [↓vAq, vBq, ↓reduceIte, Nat.reduceBEq, Nat.reduceEqDiff, Nat.reduceLT, Nat.reduceLeDiff, Nat.reduceAdd, Nat.reduceMul, Nat.reduceSub, reduceCtorEq, Int.reduceToNat]) | (refine Br.mk ?_ ?_ <;> intro h) | (refine BrN.mk (fun h => ?_) ?_) | (refine AltVC.mk ?_ ?_)
          · refine CallVC.eq hsp ?_
            have hr0 := hv.right _ hm _ (getD_mem' (l := (g.rules.getD i default).right) (i := q) (by omega))
            have hr0' : 0 ≤ (g.rules.getD i default).right.getD q 0 ∧ (g.rules.getD i default).right.getD q 0 < g.k + g.n := hr0
            repeat' first | ((first | refine Br.dec ?_ ?_ | refine Br.eqi ?_ ?_) <;> intro h <;> try (exfalso; omega)) | (simp (disch := (first | omega | (simp only [vlen]; first | done | omega))) only [↓vAq, vBq, ↓reduceIte, Nat.reduceBEq, Nat.reduceEqDiff, Nat.reduceLT, Nat.reduceLeDiff, Nat.reduceAdd, Nat.reduceMul, Nat.reduceSub, reduceCtorEq, Int.reduceToNat]) | (refine Br.mk ?_ ?_ <;> intro h) | (refine BrN.mk (fun h => ?_) ?_) | (refine AltVC.mk ?_ ?_)
            · have hbl : T.testBit (g.rules.getD i default).left.toNat = true := by assumption
              have hp2 := @pow_le31 ((g.rules.getD i default).right.getD q 0 - g.k).toNat (by omega)
              rw [shlN (by omega), orN hT32 (by omega)]
              have hlt := or_two_lt k2 (show ((g.rules.getD i default).right.getD q 0 - g.k).toNat < g.n.toNat by omega)
              have hle := @le_or T (2 ^ ((g.rules.getD i default).right.getD q 0 - g.k).toNat)
              refine loopK.mk (T ||| 2 ^ ((g.rules.getD i default).right.getD q 0 - g.k).toNat, q + 1) (by simp (disch := (first | omega | (simp only [vlen]; first | done | omega))) only [↓vAq, vBq, ↓reduceIte, Nat.reduceBEq, Nat.reduceEqDiff, Nat.reduceLT, Nat.reduceLeDiff, Nat.reduceAdd, Nat.reduceMul, Nat.reduceSub, reduceCtorEq, Int.reduceToNat]) ⟨by simp only; omega, hlt, by simp only; omega, by simp only; rw [or_bit, k4, Bool.true_or], fun y hy => ?_, fun he p hp3 => ?_⟩ (by simp only; omega) (by (simp (disch := (first | omega | (simp only [vlen]; first | done | omega))) only [Fits_u, Fits_m, Fits_nil, List.length_append, ↓vAq, vBq, ↓reduceIte, Nat.reduceBEq, Nat.reduceEqDiff, Nat.reduceLT, Nat.reduceLeDiff, Nat.reduceAdd, Nat.reduceMul, Nat.reduceSub, reduceCtorEq, Int.reduceToNat] <;> (repeat' first | rfl | apply And.intro)))
              · rw [or_bit, Bool.or_eq_true] at hy
                rcases hy with hy | hy
                · exact k5 y hy
                · rw [decide_eq_true_eq] at hy; rw [hy]; exact .step hm (k5 _ hbl) (getD_mem' (i := q) (by omega)) (by assumption)
              · simp only at he hp3
                have e3 : T = W := by omega
                intro hwl hkl
                by_cases ep : p = q
                · subst ep
                  rw [← he, or_bit]; simp
                · exact k6 e3 p (by omega) hwl hkl
            · have hbl : T.testBit (g.rules.getD i default).left.toNat = false := by assumption
              refine loopK.mk (T, q + 1) (by simp (disch := (first | omega | (simp only [vlen]; first | done | omega))) only [↓vAq, vBq, ↓reduceIte, Nat.reduceBEq, Nat.reduceEqDiff, Nat.reduceLT, Nat.reduceLeDiff, Nat.reduceAdd, Nat.reduceMul, Nat.reduceSub, reduceCtorEq, Int.reduceToNat]) ⟨by simp only; omega, k2, k3, k4, k5, fun he p hp3 => ?_⟩ (by simp only; omega) (by (simp (disch := (first | omega | (simp only [vlen]; first | done | omega))) only [Fits_u, Fits_m, Fits_nil, List.length_append, ↓vAq, vBq, ↓reduceIte, Nat.reduceBEq, Nat.reduceEqDiff, Nat.reduceLT, Nat.reduceLeDiff, Nat.reduceAdd, Nat.reduceMul, Nat.reduceSub, reduceCtorEq, Int.reduceToNat] <;> (repeat' first | rfl | apply And.intro)))
              simp only at he hp3
              by_cases ep : p = q
              · subst ep; subst he; intro hwl; rw [hbl] at hwl; cases hwl
              · exact k6 he p (by omega)
          · refine loopK.mk (T, q + 1) (by simp (disch := (first | omega | (simp only [vlen]; first | done | omega))) only [↓vAq, vBq, ↓reduceIte, Nat.reduceBEq, Nat.reduceEqDiff, Nat.reduceLT, Nat.reduceLeDiff, Nat.reduceAdd, Nat.reduceMul, Nat.reduceSub, reduceCtorEq, Int.reduceToNat]) ⟨by simp only; omega, k2, k3, k4, k5, fun he p hp3 => ?_⟩ (by simp only; omega) (by (simp (disch := (first | omega | (simp only [vlen]; first | done | omega))) only [Fits_u, Fits_m, Fits_nil, List.length_append, ↓vAq, vBq, ↓reduceIte, Nat.reduceBEq, Nat.reduceEqDiff, Nat.reduceLT, Nat.reduceLeDiff, Nat.reduceAdd, Nat.reduceMul, Nat.reduceSub, reduceCtorEq, Int.reduceToNat] <;> (repeat' first | rfl | apply And.intro)))
            simp only at he hp3
            by_cases ep : p = q
            · subst ep; intro _ hkl; omega
            · exact k6 he p (by omega)
          · refine loopK.mk (T, i + 1) (by simp (disch := (first | omega | (simp only [vlen]; first | done | omega))) only [↓vAq, vBq, ↓reduceIte, Nat.reduceBEq, Nat.reduceEqDiff, Nat.reduceLT, Nat.reduceLeDiff, Nat.reduceAdd, Nat.reduceMul, Nat.reduceSub, reduceCtorEq, Int.reduceToNat]) ⟨by simp only; omega, k2, by simp only; omega, k4, k5, fun he j hj => ?_⟩ (by simp only; omega) (by (simp (disch := (first | omega | (simp only [vlen]; first | done | omega))) only [Fits_u, Fits_m, Fits_nil, List.length_append, ↓vAq, vBq, ↓reduceIte, Nat.reduceBEq, Nat.reduceEqDiff, Nat.reduceLT, Nat.reduceLeDiff, Nat.reduceAdd, Nat.reduceMul, Nat.reduceSub, reduceCtorEq, Int.reduceToNat] <;> (repeat' first | rfl | apply And.intro)))
            simp only at he hj
            have e3 : S = W := by omega
            by_cases ej : j = i
            · subst ej
              intro hwl s hss hks
              obtain ⟨p, hp3, ep⟩ := mem_getD hss
              have ep' : (g.rules.getD j default).right.getD p 0 = s := ep
              rw [← ep']
              rw [← ep'] at hks
              exact k6 he p (by omega) hwl hks
            · exact h6 e3 j (by omega)
      · have e : S = W := by omega
        subst e
        have hc : S = comeSet g := come_is hv h2 h5 h4 fun r hr => by
          obtain ⟨j, hj, ej⟩ := mem_getD hr
          rw [← ej]; exact h6 rfl j (by omega)
        exact fin_mk (by rw [hc])
      · refine loopK.mk S (by simp (disch := (first | omega | (simp only [vlen]; first | done | omega))) only [↓vAq, vBq, ↓reduceIte, Nat.reduceBEq, Nat.reduceEqDiff, Nat.reduceLT, Nat.reduceLeDiff, Nat.reduceAdd, Nat.reduceMul, Nat.reduceSub, reduceCtorEq, Int.reduceToNat]) ⟨h2, h4, h5⟩ (by omega) (by (simp (disch := (first | omega | (simp only [vlen]; first | done | omega))) only [Fits_u, Fits_m, Fits_nil, List.length_append, ↓vAq, vBq, ↓reduceIte, Nat.reduceBEq, Nat.reduceEqDiff, Nat.reduceLT, Nat.reduceLeDiff, Nat.reduceAdd, Nat.reduceMul, Nat.reduceSub, reduceCtorEq, Int.reduceToNat] <;> (repeat' first | rfl | apply And.intro)))
end Go.Proofs.Ytplkkacfjepgpaa
