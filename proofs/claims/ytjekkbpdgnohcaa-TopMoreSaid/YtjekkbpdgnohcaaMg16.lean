/-
 Texts of this claim, one behind another.
-/
import Derived.Test.YtjekkbpdgnohcaaMg13
import Derived.Test.YtjekkbpdgnohcaaMg14
import Derived.Test.YtjekkbpdgnohcaaCuts
namespace Go.Proofs.Ytjekkbpdgnohcaa
open Go.Dm
set_option linter.unusedSimpArgs false
set_option linter.unnecessarySimpa false
set_option linter.unusedVariables false
set_option linter.defProp false
def nI (l : List Nat) : List Int := l.map fun i : Nat => (i : Int)
theorem nI_len {l : List Nat} : (nI l).length = l.length := by simp [nI]
theorem nI_get {l : List Nat} {i : Nat} (h : i < l.length) : (nI l).getD i 0 = ((l.getD i 0 : Nat) : Int) := by simp [nI, List.getD, h]
theorem cutL_N : ∀ (n i j : Nat), cutL n i j = (cutN n i j).map nI
  | 0, i, j => by simp [cutL, cutN, nI]
  | n + 1, i, j => by
    unfold cutL cutN
    rw [List.map_flatMap]
    congr 1
    funext q
    rw [cutL_N n, List.map_map, List.map_map]
    rfl
theorem cutRows_len {n i j : Nat} : (cutRows n i j).length = (cutN n i j).length := by simp [cutRows, cutL_N]
theorem cutRows_get {n i j c : Nat} (h : c < (cutN n i j).length) : (cutRows n i j).getD c [] = [.sl 1 (i64s (nI ((cutN n i j).getD c [])))] := by
  simp [cutRows, cutL_N, List.getD, h]
def stA (i : Nat) (es : List Nat) (k : Nat) : Nat := if k = 0 then i else es.getD (k - 1) 0
def rgs : Nat → List Nat → List (Nat × Nat)
  | _, [] => []
  | i, e :: es => (i, e) :: rgs e es
theorem rgs_len : ∀ {es : List Nat} {i : Nat}, (rgs i es).length = es.length
  | [], _ => rfl
  | e :: es, i => by simp [rgs, rgs_len]
theorem stA_cons {i e : Nat} {es : List Nat} {k : Nat} : stA i (e :: es) (k + 1) = stA e es k := by
  unfold stA
  rw [if_neg (by omega), Nat.add_sub_cancel]
  cases k with
  | zero => rfl
  | succ k => rw [if_neg (by omega)]; rfl
theorem rgs_take : ∀ {es : List Nat} {i k : Nat}, k < es.length → rgs i (es.take (k + 1)) = rgs i (es.take k) ++ [(stA i es k, es.getD k 0)]
  | [], i, k, h => absurd h (Nat.not_lt_zero _)
  | e :: es, i, 0, h => by simp [rgs, stA]
  | e :: es, i, k + 1, h => by
    rw [List.take_succ_cons, List.take_succ_cons, rgs, rgs, rgs_take (by simpa using h), stA_cons]
    rfl
theorem rgs_get : ∀ {es : List Nat} {i k : Nat}, k < es.length → (rgs i es).getD k default = (stA i es k, es.getD k 0)
  | [], i, k, h => absurd h (Nat.not_lt_zero _)
  | e :: es, i, 0, h => by simp [rgs, stA]
  | e :: es, i, k + 1, h => by
    rw [rgs, List.getD_cons_succ, rgs_get (by simpa using h), stA_cons]; rfl
theorem rgs_drop : ∀ {es : List Nat} {i k : Nat}, k ≤ es.length → (rgs i es).drop k = rgs (stA i es k) (es.drop k)
  | es, i, 0, _ => by simp [stA]
  | [], i, k + 1, h => by simp at h
  | e :: es, i, k + 1, h => by
    rw [rgs, List.drop_succ_cons, List.drop_succ_cons, rgs_drop (by simpa using h), stA_cons]
theorem prT_take {g : Grammar} {w : List Int} : ∀ {l : List Int} {es : List Nat} {i k : Nat}, k < l.length → k < es.length → prT g w (l.take (k + 1)) i es = prT g w (l.take k) i es * trees g w (l.getD k 0) (stA i es k) (es.getD k 0)
  | [], es, i, k, h, _ => absurd h (Nat.not_lt_zero _)
  | x :: l, [], i, k, _, h => absurd h (Nat.not_lt_zero _)
  | x :: l, e :: es, i, 0, _, _ => by simp [prT, stA]
  | x :: l, e :: es, i, k + 1, h1, h2 => by
    rw [List.take_succ_cons, List.take_succ_cons, prT_cons, prT_cons, prT_take (by simpa using h1) (by simpa using h2), stA_cons, Nat.mul_assoc]
    rfl
def Mono : Nat → List Nat → Nat → Prop
  | _, [], _ => True
  | i, e :: es, j => i ≤ e ∧ e ≤ j ∧ Mono e es j
theorem Mono.get : ∀ {es : List Nat} {i j k : Nat}, Mono i es j → k < es.length → stA i es k ≤ es.getD k 0 ∧ es.getD k 0 ≤ j
  | [], i, j, k, _, h => absurd h (Nat.not_lt_zero _)
  | e :: es, i, j, 0, h, _ => ⟨h.1, h.2.1⟩
  | e :: es, i, j, k + 1, h, hk => by
    rw [stA_cons]; exact h.2.2.get (by simpa using hk)
theorem Mono.drop : ∀ {es : List Nat} {i j k : Nat}, Mono i es j → k ≤ es.length → Mono (stA i es k) (es.drop k) j
  | es, i, j, 0, h, _ => by simpa [stA] using h
  | [], i, j, k + 1, h, hk => by simp at hk
  | e :: es, i, j, k + 1, h, hk => by
    rw [stA_cons]; exact h.2.2.drop (by simpa using hk)
theorem cutN_mono : ∀ {n i j : Nat} {c : List Nat}, i ≤ j → c ∈ cutN n i j → Mono i c j
  | 0, i, j, c, h, hc => by simp [cutN] at hc; subst hc; exact ⟨h, Nat.le_refl _, trivial⟩
  | n + 1, i, j, c, h, hc => by
    simp only [cutN, List.mem_flatMap, List.mem_map, List.mem_range] at hc
    obtain ⟨q, hq, r, hr, rfl⟩ := hc
    exact ⟨by omega, by omega, cutN_mono (by omega) hr⟩
theorem cutN_short : ∀ {n i j : Nat} {c : List Nat}, c ∈ cutN n i j → ∀ k, k < c.length → 0 < n → c.getD k 0 - stA i c k < j - i
  | 0, i, j, c, hc, k, hk, h => by omega
  | n + 1, i, j, c, hc, k, hk, _ => by
    simp only [cutN, List.mem_flatMap, List.mem_map, List.mem_range] at hc
    obtain ⟨q, hq, r, hr, rfl⟩ := hc
    cases k with
    | zero => simp [stA]; omega
    | succ k =>
      have hm := cutN_mono (show i + 1 + q ≤ j by omega) hr
      rw [stA_cons]
      have hk' : k < r.length := by simpa using hk
      have h1 := hm.get hk'
      show r.getD k 0 - _ < _
      have h2 : i + 1 + q ≤ stA (i + 1 + q) r k := by
        cases k with
        | zero => simp [stA]
        | succ k =>
          have : ∀ {es : List Nat} {a b k : Nat}, Mono a es b → k < es.length → a ≤ es.getD k 0 := by
            intro es
            induction es with
            | nil => intro a b k _ h; exact absurd h (Nat.not_lt_zero _)
            | cons e es ih =>
              intro a b k h hk
              cases k with
              | zero => exact h.1
              | succ k => exact Nat.le_trans h.1 (ih h.2.2 (by simpa using hk))
          unfold stA
          rw [if_neg (by omega), Nat.add_sub_cancel]
          exact this hm (by omega)
      omega
def rgD (p : Nat × Nat) : List D := [iv .i64 p.1, iv .i64 p.2]
theorem rg_app {l : List (Nat × Nat)} {a b : Nat} : tbl rgD l ++ [[D.v (.int .i64 a), D.v (.int .i64 b)]] = tbl rgD (l ++ [(a, b)]) := by rw [tbl_app]; rfl
theorem rgD_mk {a b : Nat} : rgD (a, b) = [D.v (.int .i64 a), D.v (.int .i64 b)] := (rfl)
def vmy := And.intro vke <| And.intro @nI_len <| And.intro @nI_get <| And.intro @rg_app <| And.intro @rgs_len @rgD_mk
set_option maxRecDepth 10000 in
set_option maxHeartbeats 4000000 in
theorem ranges_spec (i : Nat) (es : List Nat) (hi : i ≤ 1000) (hl : es.length ≤ 1000) (hm : ∀ e, e ∈ es → e ≤ 1000) : Dm.Spec Try.prog 47 [iv .i64 i, .sl 1 (i64s (nI es))] (· = .sl 2 (tbl rgD (rgs i es))) := by
  refine spec_of_vc mixed Try.func47 c47 (by rw [show Try.f47.ntmps = _ from Try.ntmps47]; simp) ?_
  unfold m47 r47
  have hnl := @nI_len es
  repeat' first | ((first | refine Br.dec ?_ ?_ | refine Br.eqi ?_ ?_) <;> intro h <;> try (exfalso; omega)) | (simp (disch := first | omega | (simp only [vlen]; first | done | omega)) only [vmy, ↓vAq, vBq, ↓reduceIte, Nat.reduceBEq, Nat.reduceEqDiff, Nat.reduceLT, Nat.reduceLeDiff, Nat.reduceAdd, Nat.reduceMul, Nat.reduceSub, reduceCtorEq, Int.reduceToNat]) | (refine Br.mk ?_ ?_ <;> intro h) | (refine BrN.mk (fun h => ?_) ?_) | (refine AltVC.mk ?_ ?_)
  refine LoopVC.mk (X := Nat) (fun k => [(5, .ref 1 2 0 k), (0, iv .i64 (stA i es k)), (10, iv .i64 k)]) (fun k => [(1, ⟨2, tbl rgD (rgs i (es.take k)), true, false, .arr⟩)]) (fun k => es.length - k) (fun k => k ≤ es.length) 0 (Nat.zero_le _) ?_ ?_
  · simp only [List.take_zero]
    (simp (disch := first | omega | (simp only [vlen]; first | done | omega)) only [Fits_u, Fits_m, Fits_nil, List.length_append, vmy, ↓vAq, vBq, ↓reduceIte, Nat.reduceBEq, Nat.reduceEqDiff, Nat.reduceLT, Nat.reduceLeDiff, Nat.reduceAdd, Nat.reduceMul, Nat.reduceSub, reduceCtorEq, Int.reduceToNat] <;> (repeat' first | rfl | apply And.intro))
    all_goals first | rfl | trace_state
  · intro k hk
    have hkl : (rgs i (es.take k)).length = k := by rw [rgs_len, List.length_take]; omega
    by_cases hke : k < es.length
    · have hr := @rgs_take es i k hke
      have hst : stA i es (k + 1) = es.getD k 0 := by unfold stA; rw [if_neg (by omega), Nat.add_sub_cancel]
      repeat' first | ((first | refine Br.dec ?_ ?_ | refine Br.eqi ?_ ?_) <;> intro h <;> try (exfalso; omega)) | (simp (disch := first | omega | (simp only [vlen]; first | done | omega)) only [vmy, ↓vAq, vBq, ↓reduceIte, Nat.reduceBEq, Nat.reduceEqDiff, Nat.reduceLT, Nat.reduceLeDiff, Nat.reduceAdd, Nat.reduceMul, Nat.reduceSub, reduceCtorEq, Int.reduceToNat]) | (refine Br.mk ?_ ?_ <;> intro h) | (refine BrN.mk (fun h => ?_) ?_) | (refine AltVC.mk ?_ ?_)
      refine loopK.mk (k + 1) (by simp (disch := first | omega | (simp only [vlen]; first | done | omega)) only [↓vAq, vBq, ↓reduceIte, Nat.reduceBEq, Nat.reduceEqDiff, Nat.reduceLT, Nat.reduceLeDiff, Nat.reduceAdd, Nat.reduceMul, Nat.reduceSub, reduceCtorEq, Int.reduceToNat]) (by omega) (by omega) ?_
      simp only [hr, hst]
      (simp (disch := first | omega | (simp only [vlen]; first | done | omega)) only [Fits_u, Fits_m, Fits_nil, List.length_append, vmy, ↓vAq, vBq, ↓reduceIte, Nat.reduceBEq, Nat.reduceEqDiff, Nat.reduceLT, Nat.reduceLeDiff, Nat.reduceAdd, Nat.reduceMul, Nat.reduceSub, reduceCtorEq, Int.reduceToNat] <;> (repeat' first | rfl | apply And.intro))
    · have e : k = es.length := by omega
      subst e
      rw [List.take_length] at hkl ⊢
      repeat' first | ((first | refine Br.dec ?_ ?_ | refine Br.eqi ?_ ?_) <;> intro h <;> try (exfalso; omega)) | (simp (disch := first | omega | (simp only [vlen]; first | done | omega)) only [vmy, ↓vAq, vBq, ↓reduceIte, Nat.reduceBEq, Nat.reduceEqDiff, Nat.reduceLT, Nat.reduceLeDiff, Nat.reduceAdd, Nat.reduceMul, Nat.reduceSub, reduceCtorEq, Int.reduceToNat]) | (refine Br.mk ?_ ?_ <;> intro h) | (refine BrN.mk (fun h => ?_) ?_) | (refine AltVC.mk ?_ ?_)
      exact fin_mk rfl
def myO (g : Grammar) (w : List Int) (L : List KE) : List (Nat × Ob) := [(0, ⟨6, [[iv .i64 g.k, iv .i64 g.n, iv .i64 g.start, .sl 2 (tbl rulD g.rules), .sl 1 (i64s w), .mp 1]], false, false, .fix⟩), (1, ⟨5, tbl keD L, true, false, .map [.i64, .i64, .i64, .i64] true false⟩)]
set_option maxRecDepth 10000 in
set_option maxHeartbeats 4000000 in
theorem many_spec (g : Grammar) (w : List Int) (hc : CC g w) (l : List Int) (i j : Nat) (es : List Nat) (hl : l.length = es.length) (hl2 : l.length ≤ 1000) (hs : ∀ x, x ∈ l → 0 ≤ x ∧ x < g.k + g.n) (hm : Mono i es j) (hj : j ≤ w.length) (L : List KE) (hL : MI g w L) : Dm.SpecH Try.prog 48 [.ptr 0 6 0 0, .sl 1 (i64s l), .sl 2 (tbl rgD (rgs i es))] (coO g w L) (coR g w (prT g w l i es)) := by
  refine specH_of_vc mixed Try.func48 c48 (by rw [show Try.f48.ntmps = _ from Try.ntmps48]; simp) ?_
  unfold m48 r48
  have hw := hc.w
  have hrl : (rgs i es).length = l.length := by rw [rgs_len, hl]
  unfold coO
  repeat' first | ((first | refine Br.dec ?_ ?_ | refine Br.eqi ?_ ?_) <;> intro h <;> try (exfalso; omega)) | (simp (disch := first | omega | (simp only [vlen]; first | done | omega)) only [vmy, ↓vAq, vBq, ↓reduceIte, Nat.reduceBEq, Nat.reduceEqDiff, Nat.reduceLT, Nat.reduceLeDiff, Nat.reduceAdd, Nat.reduceMul, Nat.reduceSub, reduceCtorEq, Int.reduceToNat]) | (refine Br.mk ?_ ?_ <;> intro h) | (refine BrN.mk (fun h => ?_) ?_) | (refine AltVC.mk ?_ ?_)
  refine LoopVC.mk (X := Nat × List KE) (fun x => [(7, iv .i64 (cp (prT g w (l.take x.1) i es))), (12, iv .i64 x.1)]) (fun x => myO g w x.2) (fun x => l.length - x.1) (fun x => x.1 ≤ l.length ∧ MI g w x.2) (0, L) ⟨Nat.zero_le _, hL⟩ ?_ ?_
  · unfold myO
    simp only [List.take_zero, prT_nil]
    (simp (disch := first | omega | (simp only [vlen]; first | done | omega)) only [Fits_u, Fits_m, Fits_nil, List.length_append, vmy, ↓vAq, vBq, ↓reduceIte, Nat.reduceBEq, Nat.reduceEqDiff, Nat.reduceLT, Nat.reduceLeDiff, Nat.reduceAdd, Nat.reduceMul, Nat.reduceSub, reduceCtorEq, Int.reduceToNat] <;> (repeat' first | rfl | apply And.intro))
    all_goals first | rfl | trace_state
  · rintro ⟨k, Lx⟩ ⟨hk, hLx⟩
    simp only at hk hLx ⊢
    unfold myO
    by_cases hkl : k < l.length
    · have hp := @prT_take g w l es i k hkl (by omega)
      have hx := hs _ (getD_mem (l := l) (i := k) (d := 0) hkl)
      have hg := hm.get (k := k) (by omega)
      have hr := @rgs_get es i k (by omega)
      repeat' first | ((first | refine Br.dec ?_ ?_ | refine Br.eqi ?_ ?_) <;> intro h <;> try (exfalso; omega)) | (simp (disch := first | omega | (simp only [vlen]; first | done | omega)) only [vmy, hr, ↓vAq, vBq, ↓reduceIte, Nat.reduceBEq, Nat.reduceEqDiff, Nat.reduceLT, Nat.reduceLeDiff, Nat.reduceAdd, Nat.reduceMul, Nat.reduceSub, reduceCtorEq, Int.reduceToNat]) | (refine Br.mk ?_ ?_ <;> intro h) | (refine BrN.mk (fun h => ?_) ?_) | (refine AltVC.mk ?_ ?_)
      refine CallVC.lendE [0, 1] [.ptr 0 6 0 0, iv .i64 (l.getD k 0), .ag [iv .i64 (stA i es k), iv .i64 (es.getD k 0)]] (coO g w Lx) (sign_spec g w hc _ _ _ hx.1 hx.2 hg.1 (by omega) Lx hLx) (by simp) (by rfl) (by unfold coO; (simp (disch := first | omega | (simp only [vlen]; first | done | omega)) only [vle0, ↓vAq, vBq, ↓reduceIte, Nat.reduceBEq, Nat.reduceEqDiff, Nat.reduceLT, Nat.reduceLeDiff, Nat.reduceAdd, Nat.reduceMul, Nat.reduceSub, reduceCtorEq, Int.reduceToNat] <;> (repeat' first | rfl | apply And.intro))) ?_
      rintro _ _ ⟨L2, rfl, rfl, hL2⟩
      unfold coO
      repeat' first | ((first | refine Br.dec ?_ ?_ | refine Br.eqi ?_ ?_) <;> intro h <;> try (exfalso; omega)) | (simp (disch := first | omega | (simp only [vlen]; first | done | omega)) only [vmy, ↓vAq, vBq, ↓reduceIte, Nat.reduceBEq, Nat.reduceEqDiff, Nat.reduceLT, Nat.reduceLeDiff, Nat.reduceAdd, Nat.reduceMul, Nat.reduceSub, reduceCtorEq, Int.reduceToNat]) | (refine Br.mk ?_ ?_ <;> intro h) | (refine BrN.mk (fun h => ?_) ?_) | (refine AltVC.mk ?_ ?_)
      refine CallVC.eq (times_cp _ _) ?_
      repeat' first | ((first | refine Br.dec ?_ ?_ | refine Br.eqi ?_ ?_) <;> intro h <;> try (exfalso; omega)) | (simp (disch := first | omega | (simp only [vlen]; first | done | omega)) only [vmy, ↓vAq, vBq, ↓reduceIte, Nat.reduceBEq, Nat.reduceEqDiff, Nat.reduceLT, Nat.reduceLeDiff, Nat.reduceAdd, Nat.reduceMul, Nat.reduceSub, reduceCtorEq, Int.reduceToNat]) | (refine Br.mk ?_ ?_ <;> intro h) | (refine BrN.mk (fun h => ?_) ?_) | (refine AltVC.mk ?_ ?_)
      refine loopK.mk (k + 1, L2) (by simp (disch := first | omega | (simp only [vlen]; first | done | omega)) only [↓vAq, vBq, ↓reduceIte, Nat.reduceBEq, Nat.reduceEqDiff, Nat.reduceLT, Nat.reduceLeDiff, Nat.reduceAdd, Nat.reduceMul, Nat.reduceSub, reduceCtorEq, Int.reduceToNat]) ⟨by show k + 1 ≤ l.length; omega, hL2⟩ (by show l.length - (k + 1) < l.length - k; omega) ?_
      simp only [hp]
      (simp (disch := first | omega | (simp only [vlen]; first | done | omega)) only [Fits_u, Fits_m, Fits_nil, List.length_append, vmy, ↓vAq, vBq, ↓reduceIte, Nat.reduceBEq, Nat.reduceEqDiff, Nat.reduceLT, Nat.reduceLeDiff, Nat.reduceAdd, Nat.reduceMul, Nat.reduceSub, reduceCtorEq, Int.reduceToNat] <;> (repeat' first | rfl | apply And.intro))
      all_goals first | rfl | trace_state
    · have e : l.take k = l := List.take_of_length_le (by omega)
      rw [e]
      repeat' first | ((first | refine Br.dec ?_ ?_ | refine Br.eqi ?_ ?_) <;> intro h <;> try (exfalso; omega)) | (simp (disch := first | omega | (simp only [vlen]; first | done | omega)) only [vmy, ↓vAq, vBq, ↓reduceIte, Nat.reduceBEq, Nat.reduceEqDiff, Nat.reduceLT, Nat.reduceLeDiff, Nat.reduceAdd, Nat.reduceMul, Nat.reduceSub, reduceCtorEq, Int.reduceToNat]) | (refine Br.mk ?_ ?_ <;> intro h) | (refine BrN.mk (fun h => ?_) ?_) | (refine AltVC.mk ?_ ?_)
      exact ctr_fin (L := Lx) (by simp (disch := first | omega | (simp only [vlen]; first | done | omega)) only [vmy, ↓vAq, vBq, ↓reduceIte, Nat.reduceBEq, Nat.reduceEqDiff, Nat.reduceLT, Nat.reduceLeDiff, Nat.reduceAdd, Nat.reduceMul, Nat.reduceSub, reduceCtorEq, Int.reduceToNat]) (by unfold coO; simp (disch := first | omega | (simp only [vlen]; first | done | omega)) only [vmy, ↓vAq, vBq, ↓reduceIte, Nat.reduceBEq, Nat.reduceEqDiff, Nat.reduceLT, Nat.reduceLeDiff, Nat.reduceAdd, Nat.reduceMul, Nat.reduceSub, reduceCtorEq, Int.reduceToNat]) rfl hLx
end Go.Proofs.Ytjekkbpdgnohcaa

namespace Go.Proofs.Ytjekkbpdgnohcaa
open Go.Dm
set_option linter.unusedSimpArgs false
set_option linter.unnecessarySimpa false
set_option linter.unusedVariables false
set_option linter.defProp false
theorem FinH_frz {n0 : Nat} {R : D → List (Option Ob) → Prop} {s : S} {d : D} {τ : Nat} {ob : Ob} (hN : τ < s.N) (hM : s.M τ = some ob) (hf : ob.flat = true) (hk : ob.kd.isMap = false) (h : FinH n0 R (s.frz τ ob) (d.frz τ ob)) : FinH n0 R s d := by
  obtain ⟨s', g, l, h1, h2, h3, h4, h5⟩ := h
  exact ⟨s', _, l, .step _ _ _ _ _ (.frz s τ ob hN hM hf hk) h1, h2, h3, h4, h5⟩
set_option maxRecDepth 10000 in
set_option maxHeartbeats 4000000 in
theorem cutsC_spec (n i j : Nat) : Dm.Spec Try.prog 46 [iv .i64 n, .ag [iv .i64 i, iv .i64 j]] (· = .clo cutF [.ip [iv .i64 n] 0, .ip [iv .i64 i, iv .i64 j] 0]) := by
  refine spec_of_vc mixed Try.func46 c46 (by rw [show Try.f46.ntmps = _ from Try.ntmps46]; simp) ?_
  unfold m46 r46
  repeat' first | ((first | refine Br.dec ?_ ?_ | refine Br.eqi ?_ ?_) <;> intro h <;> try (exfalso; omega)) | (simp (disch := first | omega | (simp only [vlen]; first | done | omega)) only [vmy, ↓vAq, vBq, ↓reduceIte, Nat.reduceBEq, Nat.reduceEqDiff, Nat.reduceLT, Nat.reduceLeDiff, Nat.reduceAdd, Nat.reduceMul, Nat.reduceSub, reduceCtorEq, Int.reduceToNat]) | (refine Br.mk ?_ ?_ <;> intro h) | (refine BrN.mk (fun h => ?_) ?_) | (refine AltVC.mk ?_ ?_)
  refine fin_frz 0 ?_
  repeat' first | ((first | refine Br.dec ?_ ?_ | refine Br.eqi ?_ ?_) <;> intro h <;> try (exfalso; omega)) | (simp (disch := first | omega | (simp only [vlen]; first | done | omega)) only [vmy, ↓vAq, vBq, ↓reduceIte, Nat.reduceBEq, Nat.reduceEqDiff, Nat.reduceLT, Nat.reduceLeDiff, Nat.reduceAdd, Nat.reduceMul, Nat.reduceSub, reduceCtorEq, Int.reduceToNat]) | (refine Br.mk ?_ ?_ <;> intro h) | (refine BrN.mk (fun h => ?_) ?_) | (refine AltVC.mk ?_ ?_)
  refine fin_frz 1 ?_
  repeat' first | ((first | refine Br.dec ?_ ?_ | refine Br.eqi ?_ ?_) <;> intro h <;> try (exfalso; omega)) | (simp (disch := first | omega | (simp only [vlen]; first | done | omega)) only [vmy, ↓vAq, vBq, ↓reduceIte, Nat.reduceBEq, Nat.reduceEqDiff, Nat.reduceLT, Nat.reduceLeDiff, Nat.reduceAdd, Nat.reduceMul, Nat.reduceSub, reduceCtorEq, Int.reduceToNat]) | (refine Br.mk ?_ ?_ <;> intro h) | (refine BrN.mk (fun h => ?_) ?_) | (refine AltVC.mk ?_ ?_)
  exact fin_mk rfl
theorem dropC {α : Type} {l : List α} {m : Nat} {d : α} (h : m < l.length) : l.drop m = l.getD m d :: l.drop (m + 1) := by
  rw [List.drop_eq_getElem_cons h]; simp [List.getD, h]
theorem last_stA {i e : Nat} : ∀ {es : List Nat}, es.getLast? = some e → stA i es es.length = e := fun {es} h => by
  have hne : es ≠ [] := fun e0 => by rw [e0] at h; cases h
  have hl := List.length_pos_iff.2 hne
  rw [List.getLast?_eq_getElem?] at h
  unfold stA
  rw [if_neg (by omega), List.getD_eq_getElem?_getD, h]; rfl
theorem tk_steps {g : Grammar} {w : List Int} (hp : Proper g) {l : List Int} {i : Nat} {es : List Nat} {st : List Int} {K : Nat} (h : Tk g w l i es st K) : st.length + l.length + 2 * i ≤ 2 * stA i es es.length := by
  induction h with
  | nil => simp [stA]
  | @sym x l i es st K hx hw h ih =>
    rw [List.length_cons, List.length_cons, stA_cons]; omega
  | @name x l i e es q c s1 s2 K1 K2 hx hq hc h1 h2 ih1 ih2 =>
    have hm := getD_cut hc
    rw [last_stA (cutN_last hm)] at ih1
    have hne := hp _ (getD_mem' (l := g.rules) (i := q) (rule_lt hq))
    have hl := List.length_pos_iff.2 hne.1
    rw [show (e :: es).length = es.length + 1 from rfl, stA_cons, List.length_cons, List.cons_append, List.length_cons, List.length_append]
    by_cases h3 : (g.rules.getD q default).right.length = 1
    · have h4 : s1 = [] := by
        match hr : (g.rules.getD q default).right, h3 with
        | [s], _ =>
          rw [hr] at h1
          have hs := hne.2 s hr
          generalize (cutN ([s].length - 1) i e).getD c [] = own at h1
          cases h1 with
          | sym _ _ h5 => cases h5; rfl
          | name h5 => exact absurd hs h5
      subst h4
      simp only [List.length_nil] at ih1 ⊢
      omega
    · omega
def nthR (g : Grammar) (w : List Int) (x : Int) (i j r : Nat) (d : D) (o : List (Option Ob)) : Prop := ∃ st L, Tk g w [x] i [j] st r ∧ (d = .sl 1 (i64s st) ∨ (d = .nl ∧ st = [])) ∧ o = (coO g w L).map some ∧ MI g w L
def nthP (g : Grammar) (w : List Int) (x : Int) (i j : Nat) : Prop := ∀ r, r < trees g w x i j → ∀ L, MI g w L → Dm.SpecH Try.prog 26 [.ptr 0 6 0 0, iv .i64 x, .ag [iv .i64 i, iv .i64 j], iv .i64 r] (coO g w L) (nthR g w x i j r)
theorem sym_tree {g : Grammar} {w : List Int} {x : Int} {i j r : Nat} (hx : x < g.k) (hr : r < trees g w x i j) : r = 0 ∧ j = i + 1 ∧ w.getD i 0 = x := by
  rw [trees_sym hx] at hr
  unfold symV at hr
  split at hr
  · next h => exact ⟨by omega, h⟩
  · omega
set_option maxRecDepth 10000 in
set_option maxHeartbeats 4000000 in
theorem nthS_spec (g : Grammar) (w : List Int) (hc : CC g w) (x : Int) (hx : x < g.k) (i j r : Nat) (hr : r < trees g w x i j) (L : List KE) (hL : MI g w L) : Dm.SpecH Try.prog 26 [.ptr 0 6 0 0, iv .i64 x, .ag [iv .i64 i, iv .i64 j], iv .i64 r] (coO g w L) (nthR g w x i j r) := by
  refine specH_of_vc mixed Try.func26 c26 (by rw [show Try.f26.ntmps = _ from Try.ntmps26]; simp) ?_
  unfold m26 r26
  obtain ⟨h1, h2, h3⟩ := sym_tree hx hr
  have hT : Tk g w [x] i [j] [] r := by subst h1 h2; exact .sym hx h3 (.nil _)
  unfold coO
  repeat' first | ((first | refine Br.dec ?_ ?_ | refine Br.eqi ?_ ?_) <;> intro h <;> try (exfalso; omega)) | (simp (disch := first | omega | (simp only [vlen]; first | done | omega)) only [vmy, ↓vAq, vBq, ↓reduceIte, Nat.reduceBEq, Nat.reduceEqDiff, Nat.reduceLT, Nat.reduceLeDiff, Nat.reduceAdd, Nat.reduceMul, Nat.reduceSub, reduceCtorEq, Int.reduceToNat]) | (refine Br.mk ?_ ?_ <;> intro h) | (refine BrN.mk (fun h => ?_) ?_) | (refine AltVC.mk ?_ ?_)
  exact finH_mk ((coO g w L).map some) (by simp [coO]) (by simp [coO]; simp (disch := first | omega | (simp only [vlen]; first | done | omega)) only [vmy, ↓vAq, vBq, ↓reduceIte, Nat.reduceBEq, Nat.reduceEqDiff, Nat.reduceLT, Nat.reduceLeDiff, Nat.reduceAdd, Nat.reduceMul, Nat.reduceSub, reduceCtorEq, Int.reduceToNat]) (by unfold coO; simp (disch := first | omega | (simp only [vlen]; first | done | omega)) only [vmy, ↓vAq, vBq, ↓reduceIte, Nat.reduceBEq, Nat.reduceEqDiff, Nat.reduceLT, Nat.reduceLeDiff, Nat.reduceAdd, Nat.reduceMul, Nat.reduceSub, reduceCtorEq, Int.reduceToNat]) ⟨[], L, hT, .inr ⟨by simp (disch := first | omega | (simp only [vlen]; first | done | omega)) only [vmy, ↓vAq, vBq, ↓reduceIte, Nat.reduceBEq, Nat.reduceEqDiff, Nat.reduceLT, Nat.reduceLeDiff, Nat.reduceAdd, Nat.reduceMul, Nat.reduceSub, reduceCtorEq, Int.reduceToNat], rfl⟩, rfl, hL⟩
def nlO (g : Grammar) (w : List Int) (L : List KE) (i j r : Nat) : List (Nat × Ob) := [(0, ⟨6, [[iv .i64 g.k, iv .i64 g.n, iv .i64 g.start, .sl 2 (tbl rulD g.rules), .sl 1 (i64s w), .mp 1]], false, false, .fix⟩), (1, ⟨5, tbl keD L, true, false, .map [.i64, .i64, .i64, .i64] true false⟩),
  (2, ⟨1, [[.ptr 0 6 0 0]], false, false, .fix⟩), (3, ⟨2, [[iv .i64 i, iv .i64 j]], true, false, .fix⟩), (4, ⟨1, [[iv .i64 r]], true, false, .fix⟩), (5, ⟨1, [[.nl]], true, false, .fix⟩)]
def nrO (g : Grammar) (w : List Int) (L : List KE) (i j r q : Nat) : List (Nat × Ob) := nlO g w L i j r ++ [(6, ⟨1, [[iv .i64 q]], true, false, .fix⟩), (7, ⟨2, [[iv .i64 (g.rules.getD q default).left, .sl 1 (i64s (g.rules.getD q default).right)]], true, false, .fix⟩)]
def nsO (g : Grammar) (w : List Int) (L : List KE) (i j r q τ : Nat) (acc : List Int) : List (Nat × Ob) := nrO g w L i j r q ++ [(τ, ⟨1, i64s ((q : Int) :: acc), true, false, .arr⟩)]
theorem rlB_succ {g : Grammar} {w : List Int} {x : Int} {i j q : Nat} : rlB g w x i j (q + 1) = rlB g w x i j q + ruleV g w x i j q := (rfl)
set_option maxRecDepth 10000 in
set_option maxHeartbeats 4000000 in
theorem nthN_spec (g : Grammar) (w : List Int) (hc : CC g w) (x : Int) (hx : ¬ x < g.k) (hx2 : x < g.k + g.n) (i j : Nat) (hij : i ≤ j) (hj : j ≤ w.length) (hT : trees g w x i j ≤ 1099511627776) (ih : ∀ x' i' j', 0 ≤ x' → x' < g.k + g.n → i' ≤ j' → j' ≤ w.length → (x' < g.k ∨ j' - i' < j - i) → trees g w x' i' j' ≤ 1099511627776 → nthP g w x' i' j') (r : Nat) (hr : r < trees g w x i j) (L : List KE) (hL : MI g w L) : Dm.SpecH Try.prog 26 [.ptr 0 6 0 0, iv .i64 x, .ag [iv .i64 i, iv .i64 j], iv .i64 r] (coO g w L) (nthR g w x i j r) := by
  refine specH_of_vc mixed Try.func26 c26 (by rw [show Try.f26.ntmps = _ from Try.ntmps26]; simp) ?_
  unfold m26 r26
  have hk := hc.v.k
  have hn := hc.v.n
  have hw := hc.w
  have hlen := hc.v.len
  unfold coO
  repeat' first | ((first | refine Br.dec ?_ ?_ | refine Br.eqi ?_ ?_) <;> intro h <;> try (exfalso; omega)) | (simp (disch := first | omega | (simp only [vlen]; first | done | omega)) only [vmy, ↓vAq, vBq, ↓reduceIte, Nat.reduceBEq, Nat.reduceEqDiff, Nat.reduceLT, Nat.reduceLeDiff, Nat.reduceAdd, Nat.reduceMul, Nat.reduceSub, reduceCtorEq, Int.reduceToNat]) | (refine Br.mk ?_ ?_ <;> intro h) | (refine BrN.mk (fun h => ?_) ?_) | (refine AltVC.mk ?_ ?_)
  refine LoopVC.mk (X := Nat × List KE) (fun y => [(31, iv .i64 y.1)]) (fun y => nlO g w y.2 i j (r - rlB g w x i j y.1)) (fun y => g.rules.length - y.1) (fun y => y.1 ≤ g.rules.length ∧ MI g w y.2 ∧ rlB g w x i j y.1 ≤ r) (0, L) ⟨Nat.zero_le _, hL, Nat.zero_le _⟩ ?_ ?_
  · unfold nlO
    (simp (disch := first | omega | (simp only [vlen]; first | done | omega)) only [Fits_u, Fits_m, Fits_nil, List.length_append, vmy, ↓vAq, vBq, ↓reduceIte, Nat.reduceBEq, Nat.reduceEqDiff, Nat.reduceLT, Nat.reduceLeDiff, Nat.reduceAdd, Nat.reduceMul, Nat.reduceSub, reduceCtorEq, Int.reduceToNat] <;> (repeat' first | rfl | apply And.intro))
    all_goals first | rfl | trace_state
  · rintro ⟨q, Lx⟩ ⟨hq1, hLx, hqr⟩
    simp only at hq1 hLx hqr ⊢
    unfold nlO
    by_cases hq : q < g.rules.length
    · have hm : g.rules.getD q default ∈ g.rules := getD_mem' hq
      have hlong := hc.v.long _ hm
      have hright := hc.v.right _ hm
      have hleft := hc.v.left _ hm
      have hsu := @rlB_succ g w x i j q
      by_cases hlx : (g.rules.getD q default).left = x - g.k
      · have hRA : RuleAt g x q := ⟨by omega, by omega, by rw [Int.toNat_natCast]; exact hlx⟩
        have hne := right_ne hc.p hq
        have hrl : 0 < (g.rules.getD q default).right.length := List.length_pos_iff.2 hne
        have hrow := rlB_row hc.p (w := w) (i := i) (j := j) hx hRA
        have hcs := cut_sum (g := g) (w := w) _ i j hne
        repeat' first | ((first | refine Br.dec ?_ ?_ | refine Br.eqi ?_ ?_) <;> intro h <;> try (exfalso; omega)) | (simp (disch := first | omega | (simp only [vlen]; first | done | omega)) only [vmy, ↓vAq, vBq, ↓reduceIte, Nat.reduceBEq, Nat.reduceEqDiff, Nat.reduceLT, Nat.reduceLeDiff, Nat.reduceAdd, Nat.reduceMul, Nat.reduceSub, reduceCtorEq, Int.reduceToNat]) | (refine Br.mk ?_ ?_ <;> intro h) | (refine BrN.mk (fun h => ?_) ?_) | (refine AltVC.mk ?_ ?_)
        refine CallVC.eq (cutsC_spec _ i j) ?_
        repeat' first | ((first | refine Br.dec ?_ ?_ | refine Br.eqi ?_ ?_) <;> intro h <;> try (exfalso; omega)) | (simp (disch := first | omega | (simp only [vlen]; first | done | omega)) only [vmy, ↓vAq, vBq, ↓reduceIte, Nat.reduceBEq, Nat.reduceEqDiff, Nat.reduceLT, Nat.reduceLeDiff, Nat.reduceAdd, Nat.reduceMul, Nat.reduceSub, reduceCtorEq, Int.reduceToNat]) | (refine Br.mk ?_ ?_ <;> intro h) | (refine BrN.mk (fun h => ?_) ?_) | (refine AltVC.mk ?_ ?_)
        refine RfVC.mk (cutRows ((g.rules.getD q default).right.length - 1) i j) (fun _ => []) (fun y : Nat × List KE => nrO g w y.2 i j y.1 q) (fun k y => MI g w y.2 ∧ rlB g w x i j q + sumL (prT g w (g.rules.getD q default).right i) ((cutN ((g.rules.getD q default).right.length - 1) i j).take k) + y.1 = r) (r - rlB g w x i j q, Lx) ?_ ?_ ⟨hLx, by simp only [List.take_zero, sumL]; omega⟩ ?_ (fun _ => rfl) ?_ ?_
        · repeat' first | ((first | refine Br.dec ?_ ?_ | refine Br.eqi ?_ ?_) <;> intro h <;> try (exfalso; omega)) | (simp (disch := first | omega | (simp only [vlen]; first | done | omega)) only [vmy, ↓vAq, vBq, ↓reduceIte, Nat.reduceBEq, Nat.reduceEqDiff, Nat.reduceLT, Nat.reduceLeDiff, Nat.reduceAdd, Nat.reduceMul, Nat.reduceSub, reduceCtorEq, Int.reduceToNat]) | (refine Br.mk ?_ ?_ <;> intro h) | (refine BrN.mk (fun h => ?_) ?_) | (refine AltVC.mk ?_ ?_)
          have := cuts_it ((g.rules.getD q default).right.length - 1) i j (by omega) (by omega) (by omega)
          rw [show (g.rules.getD q default).right.length - 1 + 1 = (g.rules.getD q default).right.length by omega] at this
          exact IterD.mk (by simp only [List.all_cons, List.all_nil, Bool.and_true]; unfold D.cl; rw [alls_leaf rfl, alls_leaf rfl]; rfl) this
        · intro row hrow'
          obtain ⟨c, _, rfl⟩ := List.mem_map.1 hrow'
          rfl
        · unfold nrO nlO
          (simp (disch := first | omega | (simp only [vlen]; first | done | omega)) only [Fits_u, Fits_m, Fits_nil, List.length_append, vmy, ↓vAq, vBq, ↓reduceIte, Nat.reduceBEq, Nat.reduceEqDiff, Nat.reduceLT, Nat.reduceLeDiff, Nat.reduceAdd, Nat.reduceMul, Nat.reduceSub, reduceCtorEq, Int.reduceToNat] <;> (repeat' first | rfl | apply And.intro))
          all_goals first | rfl | trace_state
        · rintro c ⟨rem, Ly⟩ hcl ⟨hLy, hrem⟩
          rw [cutRows_len] at hcl
          simp only at hLy hrem ⊢
          rw [cutRows_get hcl]
          have hmem := getD_cut hcl
          have hmono := cutN_mono hij hmem
          have hol := cutN_len hmem
          have hpl := sumL_take (f := prT g w (g.rules.getD q default).right i) (d := []) hcl
          have hps := sumL_take_succ (f := prT g w (g.rules.getD q default).right i) (d := []) hcl
          have hshort := cutN_short hmem
          generalize hown : (cutN ((g.rules.getD q default).right.length - 1) i j).getD c [] = own at hmem hmono hol hpl hps hshort ⊢
          have hcp : cp (prT g w (g.rules.getD q default).right i own) = prT g w (g.rules.getD q default).right i own := by unfold cp; omega
          have hown1 : ∀ e, e ∈ own → e ≤ 1000 := fun e he => by
            obtain ⟨k, hk, rfl⟩ := List.getElem_of_mem he
            have := (hmono.get hk).2
            rw [List.getD_eq_getElem?_getD, List.getElem?_eq_getElem hk] at this
            exact Nat.le_trans this (by omega)
          unfold nrO nlO
          repeat' first | ((first | refine Br.dec ?_ ?_ | refine Br.eqi ?_ ?_) <;> intro h <;> try (exfalso; omega)) | (simp (disch := first | omega | (simp only [vlen]; first | done | omega)) only [vmy, ↓vAq, vBq, ↓reduceIte, Nat.reduceBEq, Nat.reduceEqDiff, Nat.reduceLT, Nat.reduceLeDiff, Nat.reduceAdd, Nat.reduceMul, Nat.reduceSub, reduceCtorEq, Int.reduceToNat]) | (refine Br.mk ?_ ?_ <;> intro h) | (refine BrN.mk (fun h => ?_) ?_) | (refine AltVC.mk ?_ ?_)
          refine CallVC.eq (ranges_spec i own (by omega) (by omega) hown1) ?_
          repeat' first | ((first | refine Br.dec ?_ ?_ | refine Br.eqi ?_ ?_) <;> intro h <;> try (exfalso; omega)) | (simp (disch := first | omega | (simp only [vlen]; first | done | omega)) only [vmy, ↓vAq, vBq, ↓reduceIte, Nat.reduceBEq, Nat.reduceEqDiff, Nat.reduceLT, Nat.reduceLeDiff, Nat.reduceAdd, Nat.reduceMul, Nat.reduceSub, reduceCtorEq, Int.reduceToNat]) | (refine Br.mk ?_ ?_ <;> intro h) | (refine BrN.mk (fun h => ?_) ?_) | (refine AltVC.mk ?_ ?_)
          refine CallVC.lendE [0, 1] [.ptr 0 6 0 0, .sl 1 (i64s (g.rules.getD q default).right), .sl 2 (tbl rgD (rgs i own))] (coO g w Ly) (many_spec g w hc _ i j own (by omega) (by omega) hright hmono hj Ly hLy) (by simp) (by rfl) (by unfold coO; (simp (disch := first | omega | (simp only [vlen]; first | done | omega)) only [vle0, ↓vAq, vBq, ↓reduceIte, Nat.reduceBEq, Nat.reduceEqDiff, Nat.reduceLT, Nat.reduceLeDiff, Nat.reduceAdd, Nat.reduceMul, Nat.reduceSub, reduceCtorEq, Int.reduceToNat] <;> (repeat' first | rfl | apply And.intro))) ?_
          rintro _ _ ⟨L2, rfl, rfl, hL2⟩
          unfold coO
          rw [hcp]
          repeat' first | ((first | refine Br.dec ?_ ?_ | refine Br.eqi ?_ ?_) <;> intro h <;> try (exfalso; omega)) | (simp (disch := first | omega | (simp only [vlen]; first | done | omega)) only [vmy, ↓vAq, vBq, ↓reduceIte, Nat.reduceBEq, Nat.reduceEqDiff, Nat.reduceLT, Nat.reduceLeDiff, Nat.reduceAdd, Nat.reduceMul, Nat.reduceSub, reduceCtorEq, Int.reduceToNat]) | (refine Br.mk ?_ ?_ <;> intro h) | (refine BrN.mk (fun h => ?_) ?_) | (refine AltVC.mk ?_ ?_)
          · refine rfK.mk (rem - prT g w (g.rules.getD q default).right i own, L2) (by simp (disch := first | omega | (simp only [vlen]; first | done | omega)) only [↓vAq, vBq, ↓reduceIte, Nat.reduceBEq, Nat.reduceEqDiff, Nat.reduceLT, Nat.reduceLeDiff, Nat.reduceAdd, Nat.reduceMul, Nat.reduceSub, reduceCtorEq, Int.reduceToNat]) ⟨hL2, by show _ + _ + (rem - _) = r; rw [hps]; omega⟩ ?_
            have hsub : (rem : Int) - (prT g w (g.rules.getD q default).right i own : Nat) = ((rem - prT g w (g.rules.getD q default).right i own : Nat) : Int) := by omega
            (simp (disch := first | omega | (simp only [vlen]; first | done | omega)) only [Fits_u, Fits_m, Fits_nil, List.length_append, vmy, hsub, ↓vAq, vBq, ↓reduceIte, Nat.reduceBEq, Nat.reduceEqDiff, Nat.reduceLT, Nat.reduceLeDiff, Nat.reduceAdd, Nat.reduceMul, Nat.reduceSub, reduceCtorEq, Int.reduceToNat] <;> (repeat' first | rfl | apply And.intro))
          · have hlt : rem < prT g w (g.rules.getD q default).right i own := by omega
            refine LoopVC.mk (X := Nat × Nat × List Int × List KE) (fun y => [(14, .ref 8 1 0 (y.2.2.1.length + 1)), (72, iv .i64 y.1)]) (fun y => nsO g w y.2.2.2 i j y.2.1 q 8 y.2.2.1) (fun y => (g.rules.getD q default).right.length - y.1)
              (fun y => y.1 ≤ (g.rules.getD q default).right.length ∧ MI g w y.2.2.2 ∧ y.2.1 < prT g w ((g.rules.getD q default).right.drop y.1) (stA i own y.1) (own.drop y.1) ∧ prT g w ((g.rules.getD q default).right.drop y.1) (stA i own y.1) (own.drop y.1) ≤ 1099511627776 ∧ y.2.2.1.length ≤ 1000000 * y.1 ∧ ∀ st2, Tk g w ((g.rules.getD q default).right.drop y.1) (stA i own y.1) (own.drop y.1) st2 y.2.1 → Tk g w (g.rules.getD q default).right i own (y.2.2.1 ++ st2) rem) (0, rem, [], L2) ⟨Nat.zero_le _, hL2, hlt, by show prT g w (g.rules.getD q default).right i own ≤ _; omega, by simp, fun st2 h => h⟩ ?_ ?_
            · unfold nsO nrO nlO
              (simp (disch := first | omega | (simp only [vlen]; first | done | omega)) only [Fits_u, Fits_m, Fits_nil, List.length_append, vmy, ↓vAq, vBq, ↓reduceIte, Nat.reduceBEq, Nat.reduceEqDiff, Nat.reduceLT, Nat.reduceLeDiff, Nat.reduceAdd, Nat.reduceMul, Nat.reduceSub, reduceCtorEq, Int.reduceToNat] <;> (repeat' first | rfl | apply And.intro))
              all_goals first | rfl | trace_state
            · rintro ⟨m, idx, acc, Lz⟩ ⟨hm1, hLz, hidx, hib, hal, hcont⟩
              simp only at hm1 hLz hidx hib hal hcont ⊢
              unfold nsO nrO nlO
              by_cases hmr : m < (g.rules.getD q default).right.length
              · have hmo : m < own.length := by omega
                have hsA : stA i own (m + 1) = own.getD m 0 := by unfold stA; rw [if_neg (by omega), Nat.add_sub_cancel]
                have hd1 : (g.rules.getD q default).right.drop m = (g.rules.getD q default).right.getD m 0 :: (g.rules.getD q default).right.drop (m + 1) := by
                  exact dropC hmr
                have hd2 : own.drop m = own.getD m 0 :: own.drop (m + 1) := by
                  exact dropC hmo
                rw [hd1, hd2] at hidx hib hcont
                rw [prT_cons] at hidx hib
                have hmd := hmono.drop (k := m + 1) (by omega)
                have htk : List.take own.length (rgs i own) = rgs i own := List.take_of_length_le (by rw [rgs_len]; exact Nat.le_refl _)
                have hrd := @rgs_drop own i (m + 1) (by omega)
                have hrg := @rgs_get own i m hmo
                have hgm := hmono.get hmo
                have hxm := hright _ (getD_mem (l := (g.rules.getD q default).right) (i := m) (d := 0) hmr)
                have hmany := many_spec g w hc ((g.rules.getD q default).right.drop (m + 1)) (stA i own (m + 1)) j (own.drop (m + 1)) (by rw [List.length_drop, List.length_drop]; omega) (by rw [List.length_drop]; omega) (fun y hy => hright y (List.mem_of_mem_drop hy)) hmd hj Lz hLz
                have hrl2 : (rgs i own).length = own.length := rgs_len
                rw [← hsA] at hidx hib hcont
                generalize hrest : prT g w ((g.rules.getD q default).right.drop (m + 1)) (stA i own (m + 1)) (own.drop (m + 1)) = rest at hidx hib hmany
                have hr0 : 0 < rest := by
                  rcases Nat.eq_zero_or_pos rest with h0 | h0
                  · rw [h0, Nat.mul_zero] at hidx; exact absurd hidx (Nat.not_lt_zero _)
                  · exact h0
                have hT0 : 0 < trees g w ((g.rules.getD q default).right.getD m 0) (stA i own m) (stA i own (m + 1)) := by
                  rcases Nat.eq_zero_or_pos (trees g w ((g.rules.getD q default).right.getD m 0) (stA i own m) (stA i own (m + 1))) with h0 | h0
                  · rw [h0, Nat.zero_mul] at hidx; exact absurd hidx (Nat.not_lt_zero _)
                  · exact h0
                have hTle := Nat.le_mul_of_pos_right (trees g w ((g.rules.getD q default).right.getD m 0) (stA i own m) (stA i own (m + 1))) hr0
                have hrle := Nat.le_mul_of_pos_left rest hT0
                have hcr : cp rest = rest := by unfold cp; omega
                have hdiv : idx / rest < trees g w ((g.rules.getD q default).right.getD m 0) (stA i own m) (stA i own (m + 1)) := Nat.div_lt_of_lt_mul (by rw [Nat.mul_comm]; exact hidx)
                have hmod := Nat.mod_lt idx hr0
                have hde : idx / rest * rest + idx % rest = idx := by rw [Nat.mul_comm]; exact Nat.div_add_mod idx rest
                have hI1 : (idx : Int) / (rest : Int) = ((idx / rest : Nat) : Int) := (Int.natCast_ediv idx rest).symm
                have hI2 : (idx : Int) % (rest : Int) = ((idx % rest : Nat) : Int) := (Int.natCast_emod idx rest).symm
                have hdle := Nat.div_le_self idx rest
                generalize idx / rest = dv at hdiv hde hI1 hdle
                generalize idx % rest = md at hmod hde hI2
                have hsm : (g.rules.getD q default).right.getD m 0 < g.k ∨ stA i own (m + 1) - stA i own m < j - i := by
                  by_cases h1 : (g.rules.getD q default).right.length = 1
                  · left
                    have h2 := hc.p _ (getD_mem' (l := g.rules) (i := q) hq)
                    refine h2.2 _ ?_
                    match hr : (g.rules.getD q default).right, h1 with
                    | [s], _ =>
                      rw [hr] at hmr
                      have : m = 0 := by simpa using hmr
                      subst this; rfl
                  · right
                    rw [hsA]
                    exact hshort m hmo (by omega)
                have hn2 := ih _ (stA i own m) (stA i own (m + 1)) hxm.1 hxm.2 (by rw [hsA]; exact hgm.1) (by rw [hsA]; omega) hsm (by omega) dv hdiv
                repeat' first | ((first | refine Br.dec ?_ ?_ | refine Br.eqi ?_ ?_) <;> intro h <;> try (exfalso; omega)) | (simp (disch := first | omega | (simp only [vlen]; first | done | omega)) only [vmy, htk, hrd, ↓vAq, vBq, ↓reduceIte, Nat.reduceBEq, Nat.reduceEqDiff, Nat.reduceLT, Nat.reduceLeDiff, Nat.reduceAdd, Nat.reduceMul, Nat.reduceSub, reduceCtorEq, Int.reduceToNat]) | (refine Br.mk ?_ ?_ <;> intro h) | (refine BrN.mk (fun h => ?_) ?_) | (refine AltVC.mk ?_ ?_)
                refine CallVC.lendE [0, 1] [.ptr 0 6 0 0, .sl 1 (i64s ((g.rules.getD q default).right.drop (m + 1))), .sl 2 (tbl rgD (rgs (stA i own (m + 1)) (own.drop (m + 1))))] (coO g w Lz) hmany (by simp) (by rfl) (by unfold coO; (simp (disch := first | omega | (simp only [vlen]; first | done | omega)) only [vle0, ↓vAq, vBq, ↓reduceIte, Nat.reduceBEq, Nat.reduceEqDiff, Nat.reduceLT, Nat.reduceLeDiff, Nat.reduceAdd, Nat.reduceMul, Nat.reduceSub, reduceCtorEq, Int.reduceToNat] <;> (repeat' first | rfl | apply And.intro))) ?_
                rintro _ _ ⟨L3, rfl, rfl, hL3⟩
                unfold coO
                rw [hcr]
                rw [hsA] at hn2
                have hwr : IntKind.i64.wrap ((dv : Nat) : Int) = ((dv : Nat) : Int) := wrap64_id (by omega)
                repeat' first | ((first | refine Br.dec ?_ ?_ | refine Br.eqi ?_ ?_) <;> intro h <;> try (exfalso; omega)) | (simp (disch := first | omega | (simp only [vlen]; first | done | omega)) only [vmy, hrg, hI1, hwr, ↓vAq, vBq, ↓reduceIte, Nat.reduceBEq, Nat.reduceEqDiff, Nat.reduceLT, Nat.reduceLeDiff, Nat.reduceAdd, Nat.reduceMul, Nat.reduceSub, reduceCtorEq, Int.reduceToNat]) | (refine Br.mk ?_ ?_ <;> intro h) | (refine BrN.mk (fun h => ?_) ?_) | (refine AltVC.mk ?_ ?_)
                refine CallVC.lendE [0, 1] [.ptr 0 6 0 0, iv .i64 ((g.rules.getD q default).right.getD m 0), .ag [iv .i64 (stA i own m), iv .i64 (own.getD m 0)], iv .i64 (dv : Nat)] (coO g w L3) (hn2 L3 hL3) (by simp) (by rfl) (by unfold coO; (simp (disch := first | omega | (simp only [vlen]; first | done | omega)) only [vle0, ↓vAq, vBq, ↓reduceIte, Nat.reduceBEq, Nat.reduceEqDiff, Nat.reduceLT, Nat.reduceLeDiff, Nat.reduceAdd, Nat.reduceMul, Nat.reduceSub, reduceCtorEq, Int.reduceToNat] <;> (repeat' first | rfl | apply And.intro))) ?_
                rintro _ _ ⟨st1, L4, hst1, hres, rfl, hL4⟩
                have hnext : ∀ st2, Tk g w ((g.rules.getD q default).right.drop (m + 1)) (stA i own (m + 1)) (own.drop (m + 1)) st2 md → Tk g w (g.rules.getD q default).right i own ((acc ++ st1) ++ st2) rem := fun st2 h2 => by
                  rw [List.append_assoc]
                  refine hcont _ ?_
                  have := Tk.cons (by rw [hsA]; exact hst1) h2
                  rw [hrest, hde] at this
                  exact this
                have hlen1 : st1.length ≤ 1000000 := by
                  have := tk_steps hc.p hst1
                  simp only [List.length_singleton, stA, Nat.one_ne_zero, if_false, Nat.sub_self, List.getD_cons_zero] at this
                  omega
                unfold coO
                rcases hres with rfl | ⟨rfl, rfl⟩
                · repeat' first | ((first | refine Br.dec ?_ ?_ | refine Br.eqi ?_ ?_) <;> intro h <;> try (exfalso; omega)) | (simp (disch := first | omega | (simp only [vlen]; first | done | omega)) only [vmy, hI2, ↓vAq, vBq, ↓reduceIte, Nat.reduceBEq, Nat.reduceEqDiff, Nat.reduceLT, Nat.reduceLeDiff, Nat.reduceAdd, Nat.reduceMul, Nat.reduceSub, reduceCtorEq, Int.reduceToNat]) | (refine Br.mk ?_ ?_ <;> intro h) | (refine BrN.mk (fun h => ?_) ?_) | (refine AltVC.mk ?_ ?_)
                  refine loopK.mk (m + 1, md, acc ++ st1, L4) (by simp (disch := first | omega | (simp only [vlen]; first | done | omega)) only [↓vAq, vBq, ↓reduceIte, Nat.reduceBEq, Nat.reduceEqDiff, Nat.reduceLT, Nat.reduceLeDiff, Nat.reduceAdd, Nat.reduceMul, Nat.reduceSub, reduceCtorEq, Int.reduceToNat]) ⟨by show m + 1 ≤ _; omega, hL4, by rw [hrest]; exact hmod, by rw [hrest]; omega, by show (acc ++ st1).length ≤ 1000000 * (m + 1); rw [List.length_append]; omega, hnext⟩ (by show (g.rules.getD q default).right.length - (m + 1) < (g.rules.getD q default).right.length - m; omega) ?_
                  (simp (disch := first | omega | (simp only [vlen]; first | done | omega)) only [Fits_u, Fits_m, Fits_nil, List.length_append, vmy, hI2, ↓vAq, vBq, ↓reduceIte, Nat.reduceBEq, Nat.reduceEqDiff, Nat.reduceLT, Nat.reduceLeDiff, Nat.reduceAdd, Nat.reduceMul, Nat.reduceSub, reduceCtorEq, Int.reduceToNat] <;> (repeat' first | rfl | apply And.intro))
                  all_goals first | rfl | (congr 1; omega)
                · repeat' first | ((first | refine Br.dec ?_ ?_ | refine Br.eqi ?_ ?_) <;> intro h <;> try (exfalso; omega)) | (simp (disch := first | omega | (simp only [vlen]; first | done | omega)) only [vmy, hI2, ↓vAq, vBq, ↓reduceIte, Nat.reduceBEq, Nat.reduceEqDiff, Nat.reduceLT, Nat.reduceLeDiff, Nat.reduceAdd, Nat.reduceMul, Nat.reduceSub, reduceCtorEq, Int.reduceToNat]) | (refine Br.mk ?_ ?_ <;> intro h) | (refine BrN.mk (fun h => ?_) ?_) | (refine AltVC.mk ?_ ?_)
                  refine loopK.mk (m + 1, md, acc ++ [], L4) (by simp (disch := first | omega | (simp only [vlen]; first | done | omega)) only [↓vAq, vBq, ↓reduceIte, Nat.reduceBEq, Nat.reduceEqDiff, Nat.reduceLT, Nat.reduceLeDiff, Nat.reduceAdd, Nat.reduceMul, Nat.reduceSub, reduceCtorEq, Int.reduceToNat]) ⟨by show m + 1 ≤ _; omega, hL4, by rw [hrest]; exact hmod, by rw [hrest]; omega, by show (acc ++ []).length ≤ 1000000 * (m + 1); rw [List.length_append]; simp; omega, hnext⟩ (by show (g.rules.getD q default).right.length - (m + 1) < (g.rules.getD q default).right.length - m; omega) ?_
                  rw [List.append_nil]
                  (simp (disch := first | omega | (simp only [vlen]; first | done | omega)) only [Fits_u, Fits_m, Fits_nil, List.length_append, vmy, hI2, ↓vAq, vBq, ↓reduceIte, Nat.reduceBEq, Nat.reduceEqDiff, Nat.reduceLT, Nat.reduceLeDiff, Nat.reduceAdd, Nat.reduceMul, Nat.reduceSub, reduceCtorEq, Int.reduceToNat] <;> (repeat' first | rfl | apply And.intro))
                  all_goals first | rfl | (congr 1; omega)
              · have e : m = (g.rules.getD q default).right.length := by omega
                have h0 := hcont [] (by
                  rw [List.drop_of_length_le (by omega), List.drop_of_length_le (by omega)]
                  rw [List.drop_of_length_le (by omega), prT_nil] at hidx
                  have : idx = 0 := by omega
                  subst this; exact .nil _)
                rw [List.append_nil] at h0
                have hfin : Tk g w [x] i [j] ((q : Int) :: acc) r := by
                  have := Tk.name (l := []) (es := []) (s2 := []) (K2 := 0) hx hRA hcl (by rw [hown]; exact h0) (.nil j)
                  rw [prT_nil, Nat.mul_one, Nat.add_zero, hrem, List.append_nil] at this
                  exact this
                have hll : ((q : Int) :: acc).length = acc.length + 1 := rfl
                repeat' first | ((first | refine Br.dec ?_ ?_ | refine Br.eqi ?_ ?_) <;> intro h <;> try (exfalso; omega)) | (simp (disch := first | omega | (simp only [vlen]; first | done | omega)) only [vmy, ↓vAq, vBq, ↓reduceIte, Nat.reduceBEq, Nat.reduceEqDiff, Nat.reduceLT, Nat.reduceLeDiff, Nat.reduceAdd, Nat.reduceMul, Nat.reduceSub, reduceCtorEq, Int.reduceToNat]) | (refine Br.mk ?_ ?_ <;> intro h) | (refine BrN.mk (fun h => ?_) ?_) | (refine AltVC.mk ?_ ?_)
                refine FinH_frz (τ := 8) (ob := ⟨1, i64s ((q : Int) :: acc), true, false, .arr⟩) (by simp (disch := first | omega | (simp only [vlen]; first | done | omega)) only [vmy, ↓vAq, vBq, ↓reduceIte, Nat.reduceBEq, Nat.reduceEqDiff, Nat.reduceLT, Nat.reduceLeDiff, Nat.reduceAdd, Nat.reduceMul, Nat.reduceSub, reduceCtorEq, Int.reduceToNat]) (by simp (disch := first | omega | (simp only [vlen]; first | done | omega)) only [vmy, ↓vAq, vBq, ↓reduceIte, Nat.reduceBEq, Nat.reduceEqDiff, Nat.reduceLT, Nat.reduceLeDiff, Nat.reduceAdd, Nat.reduceMul, Nat.reduceSub, reduceCtorEq, Int.reduceToNat]) rfl rfl ?_
                repeat' first | ((first | refine Br.dec ?_ ?_ | refine Br.eqi ?_ ?_) <;> intro h <;> try (exfalso; omega)) | (simp (disch := first | omega | (simp only [vlen]; first | done | omega)) only [vmy, hll, ↓vAq, vBq, ↓reduceIte, Nat.reduceBEq, Nat.reduceEqDiff, Nat.reduceLT, Nat.reduceLeDiff, Nat.reduceAdd, Nat.reduceMul, Nat.reduceSub, reduceCtorEq, Int.reduceToNat]) | (refine Br.mk ?_ ?_ <;> intro h) | (refine BrN.mk (fun h => ?_) ?_) | (refine AltVC.mk ?_ ?_)
                exact finH_mk ((coO g w Lz).map some) (by simp [coO]) (by simp [coO]; simp (disch := first | omega | (simp only [vlen]; first | done | omega)) only [vmy, ↓vAq, vBq, ↓reduceIte, Nat.reduceBEq, Nat.reduceEqDiff, Nat.reduceLT, Nat.reduceLeDiff, Nat.reduceAdd, Nat.reduceMul, Nat.reduceSub, reduceCtorEq, Int.reduceToNat]) (by unfold coO; simp (disch := first | omega | (simp only [vlen]; first | done | omega)) only [vmy, ↓vAq, vBq, ↓reduceIte, Nat.reduceBEq, Nat.reduceEqDiff, Nat.reduceLT, Nat.reduceLeDiff, Nat.reduceAdd, Nat.reduceMul, Nat.reduceSub, reduceCtorEq, Int.reduceToNat]) ⟨(q : Int) :: acc, Lz, hfin, .inl (by simp (disch := first | omega | (simp only [vlen]; first | done | omega)) only [vmy, ↓vAq, vBq, ↓reduceIte, Nat.reduceBEq, Nat.reduceEqDiff, Nat.reduceLT, Nat.reduceLeDiff, Nat.reduceAdd, Nat.reduceMul, Nat.reduceSub, reduceCtorEq, Int.reduceToNat]), rfl, hLz⟩
        · rintro ⟨rem, Ly⟩ ⟨hLy, hrem⟩
          rw [cutRows_len, List.take_length, hcs] at hrem
          simp only at hLy hrem ⊢
          have hru := rule_row (w := w) (i := i) (j := j) hRA
          unfold nrO nlO
          repeat' first | ((first | refine Br.dec ?_ ?_ | refine Br.eqi ?_ ?_) <;> intro h <;> try (exfalso; omega)) | (simp (disch := first | omega | (simp only [vlen]; first | done | omega)) only [vmy, ↓vAq, vBq, ↓reduceIte, Nat.reduceBEq, Nat.reduceEqDiff, Nat.reduceLT, Nat.reduceLeDiff, Nat.reduceAdd, Nat.reduceMul, Nat.reduceSub, reduceCtorEq, Int.reduceToNat]) | (refine Br.mk ?_ ?_ <;> intro h) | (refine BrN.mk (fun h => ?_) ?_) | (refine AltVC.mk ?_ ?_)
          refine loopK.mk (q + 1, Ly) (by simp (disch := first | omega | (simp only [vlen]; first | done | omega)) only [↓vAq, vBq, ↓reduceIte, Nat.reduceBEq, Nat.reduceEqDiff, Nat.reduceLT, Nat.reduceLeDiff, Nat.reduceAdd, Nat.reduceMul, Nat.reduceSub, reduceCtorEq, Int.reduceToNat]) ⟨by show q + 1 ≤ g.rules.length; omega, hLy, by show rlB g w x i j (q + 1) ≤ r; omega⟩ (by show g.rules.length - (q + 1) < g.rules.length - q; omega) ?_
          rw [show r - rlB g w x i j (q + 1) = rem by omega]
          (simp (disch := first | omega | (simp only [vlen]; first | done | omega)) only [Fits_u, Fits_m, Fits_nil, List.length_append, vmy, ↓vAq, vBq, ↓reduceIte, Nat.reduceBEq, Nat.reduceEqDiff, Nat.reduceLT, Nat.reduceLeDiff, Nat.reduceAdd, Nat.reduceMul, Nat.reduceSub, reduceCtorEq, Int.reduceToNat] <;> (repeat' first | rfl | apply And.intro))
          all_goals first | rfl | trace_state
      · have hru : ruleV g w x i j q = 0 := by unfold ruleV; rw [if_neg hlx]
        repeat' first | ((first | refine Br.dec ?_ ?_ | refine Br.eqi ?_ ?_) <;> intro h <;> try (exfalso; omega)) | (simp (disch := first | omega | (simp only [vlen]; first | done | omega)) only [vmy, ↓vAq, vBq, ↓reduceIte, Nat.reduceBEq, Nat.reduceEqDiff, Nat.reduceLT, Nat.reduceLeDiff, Nat.reduceAdd, Nat.reduceMul, Nat.reduceSub, reduceCtorEq, Int.reduceToNat]) | (refine Br.mk ?_ ?_ <;> intro h) | (refine BrN.mk (fun h => ?_) ?_) | (refine AltVC.mk ?_ ?_)
        refine loopK.mk (q + 1, Lx) (by simp (disch := first | omega | (simp only [vlen]; first | done | omega)) only [↓vAq, vBq, ↓reduceIte, Nat.reduceBEq, Nat.reduceEqDiff, Nat.reduceLT, Nat.reduceLeDiff, Nat.reduceAdd, Nat.reduceMul, Nat.reduceSub, reduceCtorEq, Int.reduceToNat]) ⟨by show q + 1 ≤ g.rules.length; omega, hLx, by show rlB g w x i j (q + 1) ≤ r; omega⟩ (by show g.rules.length - (q + 1) < g.rules.length - q; omega) ?_
        rw [show rlB g w x i j (q + 1) = rlB g w x i j q by omega]
        (simp (disch := first | omega | (simp only [vlen]; first | done | omega)) only [Fits_u, Fits_m, Fits_nil, List.length_append, vmy, ↓vAq, vBq, ↓reduceIte, Nat.reduceBEq, Nat.reduceEqDiff, Nat.reduceLT, Nat.reduceLeDiff, Nat.reduceAdd, Nat.reduceMul, Nat.reduceSub, reduceCtorEq, Int.reduceToNat] <;> (repeat' first | rfl | apply And.intro))
        all_goals first | rfl | trace_state
    · have e2 : q = g.rules.length := by omega
      subst e2
      rw [trees_name hc.p hx] at hr
      exact absurd hqr (Nat.not_le.2 hr)
theorem nth_all (g : Grammar) (w : List Int) (hc : CC g w) : ∀ n x i j, 0 ≤ x → x < g.k + g.n → i ≤ j → j ≤ w.length → (x < g.k ∨ j - i < n) → trees g w x i j ≤ 1099511627776 → nthP g w x i j := by
  intro n
  induction n with
  | zero =>
    intro x i j h0 h1 hij hj h2 hT r hr L hL
    exact nthS_spec g w hc x (h2.resolve_right (Nat.not_lt_zero _)) i j r hr L hL
  | succ n ih =>
    intro x i j h0 h1 hij hj h2 hT r hr L hL
    by_cases hx : x < g.k
    · exact nthS_spec g w hc x hx i j r hr L hL
    · have h3 := h2.resolve_left hx
      exact nthN_spec g w hc x hx h1 i j hij hj hT (fun x' i' j' a b c d e f => ih x' i' j' a b c d (e.imp (fun h => h) fun h => by omega) f) r hr L hL
theorem nth_spec (g : Grammar) (w : List Int) (hc : CC g w) (x : Int) (i j : Nat) (h0 : 0 ≤ x) (h1 : x < g.k + g.n) (hij : i ≤ j) (hj : j ≤ w.length) (hT : trees g w x i j ≤ 1099511627776) : nthP g w x i j := nth_all g w hc (j - i + 1) x i j h0 h1 hij hj (.inr (Nat.lt_succ_self _)) hT
end Go.Proofs.Ytjekkbpdgnohcaa

namespace Go.Dm
end Go.Dm

namespace Go.Proofs.Ytjekkbpdgnohcaa
open Go.Dm
set_option linter.unusedSimpArgs false
set_option linter.unnecessarySimpa false
set_option linter.unusedVariables false
set_option linter.defProp false
end Go.Proofs.Ytjekkbpdgnohcaa

namespace Go.Proofs.Ytjekkbpdgnohcaa
open Go.Dm
theorem getD_idx {α : Type} {l : List α} {t : Nat} {d : α} (h : t < l.length) : l.getD t d = l[t] := by simp [List.getD, h]
theorem tk_uncons {g : Grammar} {w : List Int} {x : Int} {l : List Int} {i : Nat} {es : List Nat} {st : List Int} {K : Nat} (h : Tk g w (x :: l) i es st K) : ∃ e es' s1 s2 n K2, es = e :: es' ∧ st = s1 ++ s2 ∧ Tk g w [x] i [e] s1 n ∧ Tk g w l e es' s2 K2 := by
  cases h with
  | @sym _ _ _ es st _ hx hw h => exact ⟨_, _, [], st, 0, K, rfl, rfl, .sym hx hw (.nil _), h⟩
  | @name _ _ _ e es q c s1 s2 K1 K2 hx hq hc h1 h2 =>
    exact ⟨_, _, _, s2, _, K2, rfl, rfl, by have := Tk.name hx hq hc h1 (.nil e); rwa [List.append_nil] at this, h2⟩
structure AI (g : Grammar) (w : List Int) (rt : List Int) (i : Nat) (way : List Nat) (stp : List Int) (m : Nat) (acc : List Int) (own : Nat) : Prop where
  pre : ∃ rest, stp = acc ++ rest
  fw : ∀ st2 K2, Tk g w (rt.drop m) (stA i way m) (way.drop m) st2 K2 → Tk g w rt i way (acc ++ st2) (own + K2)
  bw : ∀ st K r, Tk g w rt i way st K → stp = st ++ r → ∃ st2 K2, st = acc ++ st2 ∧ Tk g w (rt.drop m) (stA i way m) (way.drop m) st2 K2
  le : own + prT g w (rt.drop m) (stA i way m) (way.drop m) ≤ prT g w rt i way
section
variable {g : Grammar} {w : List Int} {rt : List Int} {i : Nat} {way : List Nat} {stp : List Int} {m : Nat}
theorem AI.zero : AI g w rt i way stp 0 [] 0 where
  pre := ⟨stp, rfl⟩
  fw := fun st2 K2 h => by rw [Nat.zero_add]; exact h
  bw := fun st K r h _ => ⟨st, K, rfl, h⟩
  le := by rw [Nat.zero_add]; exact Nat.le_refl _
theorem stA_succ : stA i way (m + 1) = way.getD m 0 := by unfold stA; rw [if_neg (by omega), Nat.add_sub_cancel]
theorem AI.stepG (hm : m < rt.length) (hw : m < way.length) {acc : List Int} {own : Nat} (h : AI g w rt i way stp m acc own) {s1 : List Int} {n : Nat} (hT : Tk g w [rt.getD m 0] (stA i way m) [way.getD m 0] s1 n) (hp : ∃ rest, stp = acc ++ s1 ++ rest) (hpr : Proper g) : AI g w rt i way stp (m + 1) (acc ++ s1) (own + n * prT g w (rt.drop (m + 1)) (stA i way (m + 1)) (way.drop (m + 1))) := by
  have hd1 : rt.drop m = rt.getD m 0 :: rt.drop (m + 1) := dropC hm
  have hd2 : way.drop m = way.getD m 0 :: way.drop (m + 1) := dropC hw
  refine ⟨hp, fun st2 K2 h2 => ?_, fun st K r hK hs => ?_, ?_⟩
  · rw [List.append_assoc, Nat.add_assoc]
    refine h.fw _ _ ?_
    rw [stA_succ] at h2 ⊢
    rw [hd1, hd2]
    exact Tk.cons hT h2
  · obtain ⟨st2, K2, e1, h2⟩ := h.bw st K r hK hs
    rw [hd1, hd2] at h2
    obtain ⟨e, es', t1, t2, n', K3, e2, e3, h3, h4⟩ := tk_uncons h2
    simp only [List.cons.injEq] at e2
    obtain ⟨rfl, rfl⟩ := e2
    obtain ⟨rest, hp⟩ := hp
    have e5 : s1 ++ rest = t1 ++ (t2 ++ r) := by
      have : acc ++ (s1 ++ rest) = acc ++ (t1 ++ (t2 ++ r)) := by rw [← List.append_assoc, ← hp, hs, e1, e3]; simp
      exact List.append_cancel_left this
    obtain ⟨rfl, _, _, _⟩ := hT.det h3 e5
    exact ⟨t2, K3, by rw [e1, e3, List.append_assoc], by rw [stA_succ]; exact h4⟩
  · have h1 := h.le
    have h2 := hT.lt hpr
    rw [prT_cons, prT_nil, Nat.mul_one] at h2
    rw [hd1, hd2, prT_cons, ← stA_succ (i := i)] at h1
    have := Nat.mul_le_mul_right (prT g w (rt.drop (m + 1)) (stA i way (m + 1)) (way.drop (m + 1))) h2
    rw [← stA_succ (i := i), Nat.succ_mul] at this
    omega
theorem AI.sym (hm : m < rt.length) (hw : m < way.length) {acc : List Int} {own : Nat} (h : AI g w rt i way stp m acc own) (hx : rt.getD m 0 < g.k) (ht : trees g w (rt.getD m 0) (stA i way m) (way.getD m 0) ≠ 0) (hpr : Proper g) : AI g w rt i way stp (m + 1) acc own := by
  obtain ⟨h1, h2, h3⟩ := sym_tree (r := 0) hx (Nat.pos_of_ne_zero ht)
  have hT : Tk g w [rt.getD m 0] (stA i way m) [way.getD m 0] [] 0 := by rw [h2]; exact .sym hx h3 (.nil _)
  have := AI.stepG hm hw h hT (by rw [List.append_nil]; exact h.pre) hpr
  rwa [List.append_nil, Nat.zero_mul, Nat.add_zero] at this
theorem AI.none (hm : m < rt.length) (hw : m < way.length) {acc : List Int} {own : Nat} (h : AI g w rt i way stp m acc own) (hn : ∀ st1 K r, stp.drop acc.length = st1 ++ r → ¬ Tk g w [rt.getD m 0] (stA i way m) [way.getD m 0] st1 K) : ∀ st K r, stp = st ++ r → ¬ Tk g w rt i way st K := fun st K r hs hK => by
  obtain ⟨st2, K2, e1, h2⟩ := h.bw st K r hK hs
  rw [dropC (d := 0) hm, dropC (d := 0) hw] at h2
  obtain ⟨e, es', t1, t2, n', K3, e2, e3, h3, h4⟩ := tk_uncons h2
  simp only [List.cons.injEq] at e2
  obtain ⟨rfl, rfl⟩ := e2
  refine hn t1 n' (t2 ++ r) ?_ h3
  rw [hs, e1, e3, List.append_assoc, List.drop_left, List.append_assoc]
theorem AI.all (hm : m = rt.length) (hw : m = way.length) {acc : List Int} {own : Nat} (h : AI g w rt i way stp m acc own) : Tk g w rt i way acc own := by
  have := h.fw [] 0
  rw [List.drop_of_length_le (by omega), List.drop_of_length_le (by omega), List.append_nil] at this
  exact this (.nil _)
end
end Go.Proofs.Ytjekkbpdgnohcaa

namespace Go.Proofs.Ytjekkbpdgnohcaa
open Go.Dm
set_option linter.unusedSimpArgs false
set_option linter.unnecessarySimpa false
set_option linter.unusedVariables false
set_option linter.defProp false
theorem prT_split {g : Grammar} {w : List Int} : ∀ {l : List Int} {es : List Nat} {i m : Nat}, es.length = l.length → prT g w l i es = prT g w (l.take m) i es * prT g w (l.drop m) (stA i es m) (es.drop m)
  | l, es, i, 0, h => by simp [stA, prT]
  | [], [], i, m + 1, h => by simp [prT]
  | [], _ :: _, i, m + 1, h => by simp at h
  | x :: l, [], i, m + 1, h => by simp at h
  | x :: l, e :: es, i, m + 1, h => by
    rw [List.take_succ_cons, List.drop_succ_cons, List.drop_succ_cons, prT_cons, prT_cons, stA_cons, prT_split (l := l) (es := es) (m := m) (by simpa using h), Nat.mul_assoc]
theorem prT_fac {g : Grammar} {w : List Int} {l : List Int} {es : List Nat} {i m B : Nat} (hl : es.length = l.length) (hm : m < l.length) (h0 : prT g w l i es ≠ 0) (hB : prT g w l i es ≤ B) :
    ∃ T P Q, trees g w (l.getD m 0) (stA i es m) (es.getD m 0) = T ∧ prT g w (l.take m) i es = P ∧ prT g w (l.drop (m + 1)) (stA i es (m + 1)) (es.drop (m + 1)) = Q ∧ prT g w (l.take (m + 1)) i es = P * T ∧ prT g w (l.drop m) (stA i es m) (es.drop m) = T * Q ∧ T ≠ 0 ∧ T ≤ B ∧ P ≠ 0 ∧ P * T ≤ B ∧ P ≤ B ∧ Q ≠ 0 ∧ T * Q ≤ B ∧ Q ≤ B := by
  refine ⟨_, _, _, rfl, rfl, rfl, prT_take hm (by omega), ?_, ?_⟩
  · rw [dropC (d := 0) hm, dropC (d := 0) (show m < es.length by omega), prT_cons, ← stA_succ (i := i)]
  have e1 := prT_split (g := g) (w := w) (i := i) (m := m) hl
  have e2 : prT g w (l.drop m) (stA i es m) (es.drop m) = trees g w (l.getD m 0) (stA i es m) (es.getD m 0) * prT g w (l.drop (m + 1)) (stA i es (m + 1)) (es.drop (m + 1)) := by
    rw [dropC (d := 0) hm, dropC (d := 0) (show m < es.length by omega), prT_cons, ← stA_succ (i := i)]
  rw [e1, e2] at h0 hB
  generalize trees g w (l.getD m 0) (stA i es m) (es.getD m 0) = T at *
  generalize prT g w (l.take m) i es = P at *
  generalize prT g w (l.drop (m + 1)) (stA i es (m + 1)) (es.drop (m + 1)) = Q at *
  have hP : P ≠ 0 := fun e => h0 (by rw [e, Nat.zero_mul])
  have hT : T ≠ 0 := fun e => h0 (by rw [e, Nat.zero_mul, Nat.mul_zero])
  have hQ : Q ≠ 0 := fun e => h0 (by rw [e, Nat.mul_zero, Nat.mul_zero])
  have a1 : T * Q ≤ P * (T * Q) := Nat.le_mul_of_pos_left _ (Nat.pos_of_ne_zero hP)
  have a2 : T ≤ T * Q := Nat.le_mul_of_pos_right _ (Nat.pos_of_ne_zero hQ)
  have a3 : Q ≤ T * Q := Nat.le_mul_of_pos_left _ (Nat.pos_of_ne_zero hT)
  have a4 : P * T ≤ P * T * Q := Nat.le_mul_of_pos_right _ (Nat.pos_of_ne_zero hQ)
  have a5 : P ≤ P * T := Nat.le_mul_of_pos_right _ (Nat.pos_of_ne_zero hT)
  rw [Nat.mul_assoc] at a4
  exact ⟨hT, by omega, hP, by omega, by omega, hQ, by omega, by omega⟩
theorem ivEq {a b : Int} (h : a = b) : D.v (.int .i64 a) = iv .i64 b := by subst h; rfl
end Go.Proofs.Ytjekkbpdgnohcaa

namespace Go.Proofs.Ytjekkbpdgnohcaa
open Go.Dm
set_option linter.unusedSimpArgs false
set_option linter.unnecessarySimpa false
set_option linter.unusedVariables false
set_option linter.defProp false
def trC (g : Grammar) (w : List Int) : Int := if tcode g w = 0 then (if 1099511627776 < trN g w then 1 else 0) else tcode g w
set_option maxRecDepth 10000 in
set_option maxHeartbeats 4000000 in
theorem trees_spec (g : Grammar) (hg : g.ok) (w : List Int) (hw : w.length ≤ 9223372036854775807) : Dm.Spec Try.prog 58 [.ag (graD g), .sl 1 (i64s w)] (· = .tu [iv .i64 (if trC g w = 0 then (trN g w : Int) else 0), iv .i64 (trC g w)]) := by
  refine spec_of_vc mixed Try.func58 c58 (by rw [show Try.f58.ntmps = _ from Try.ntmps58]; simp) ?_
  unfold m58 r58
  repeat' first | ((first | refine Br.dec ?_ ?_ | refine Br.eqi ?_ ?_) <;> intro h <;> try (exfalso; omega)) | (simp (disch := first | omega | (simp only [vlen]; first | done | omega)) only [vke, ↓vAq, vBq, ↓reduceIte, Nat.reduceBEq, Nat.reduceEqDiff, Nat.reduceLT, Nat.reduceLeDiff, Nat.reduceAdd, Nat.reduceMul, Nat.reduceSub, reduceCtorEq, Int.reduceToNat]) | (refine Br.mk ?_ ?_ <;> intro h) | (refine BrN.mk (fun h => ?_) ?_) | (refine AltVC.mk ?_ ?_)
  refine CallVC.lendE [] [.ag (graD g), .sl 1 (i64s w)] [] (whole_spec g hg w hw) (by simp) (by rfl) (by (simp (disch := first | omega | (simp only [vlen]; first | done | omega)) only [vle0, ↓vAq, vBq, ↓reduceIte, Nat.reduceBEq, Nat.reduceEqDiff, Nat.reduceLT, Nat.reduceLeDiff, Nat.reduceAdd, Nat.reduceMul, Nat.reduceSub, reduceCtorEq, Int.reduceToNat] <;> (repeat' first | rfl | apply And.intro))) ?_
  rintro _ _ (⟨h1, h2, L, rfl, rfl, hL⟩ | ⟨c, h1, h2, h3, rfl⟩)
  · repeat' first | ((first | refine Br.dec ?_ ?_ | refine Br.eqi ?_ ?_) <;> intro h <;> try (exfalso; omega)) | (simp (disch := first | omega | (simp only [vlen]; first | done | omega)) only [vke, ↓vAq, vBq, ↓reduceIte, Nat.reduceBEq, Nat.reduceEqDiff, Nat.reduceLT, Nat.reduceLeDiff, Nat.reduceAdd, Nat.reduceMul, Nat.reduceSub, reduceCtorEq, Int.reduceToNat]) | (refine Br.mk ?_ ?_ <;> intro h) | (refine BrN.mk (fun h => ?_) ?_) | (refine AltVC.mk ?_ ?_)
    have e : trC g w = 0 := by unfold trC; rw [if_pos h1, if_neg (by omega)]
    exact fin_mk (by rw [e, if_pos rfl])
  · repeat' first | ((first | refine Br.dec ?_ ?_ | refine Br.eqi ?_ ?_) <;> intro h <;> try (exfalso; omega)) | (simp (disch := first | omega | (simp only [vlen]; first | done | omega)) only [vke, ↓vAq, vBq, ↓reduceIte, Nat.reduceBEq, Nat.reduceEqDiff, Nat.reduceLT, Nat.reduceLeDiff, Nat.reduceAdd, Nat.reduceMul, Nat.reduceSub, reduceCtorEq, Int.reduceToNat]) | (refine Br.mk ?_ ?_ <;> intro h) | (refine BrN.mk (fun h => ?_) ?_) | (refine AltVC.mk ?_ ?_)
    have e : trC g w = c := by
      unfold trC
      by_cases ht : tcode g w = 0
      · rw [if_pos ht] at h2
        rw [if_pos ht, if_pos (h3 ht), h2]
      · rw [if_neg ht] at h2
        rw [if_neg ht, h2]
    exact fin_mk (by rw [e, if_neg h1])
end Go.Proofs.Ytjekkbpdgnohcaa

namespace Go.Proofs.Ytjekkbpdgnohcaa
open Go.Dm
set_option linter.unusedSimpArgs false
set_option linter.unnecessarySimpa false
set_option linter.unusedVariables false
set_option linter.defProp false
theorem cc_ok {g : Grammar} {w : List Int} (h : trC g w = 0) : CC g w ∧ tcode g w = 0 ∧ trN g w ≤ 1099511627776 := by
  unfold trC at h
  by_cases ht : tcode g w = 0
  · rw [if_pos ht] at h
    refine ⟨(cc_of ht).1, ht, ?_⟩
    by_cases hb : 1099511627776 < trN g w
    · rw [if_pos hb] at h; omega
    · omega
  · rw [if_neg ht] at h; exact absurd h ht
def pkR (g : Grammar) (w : List Int) (i : Int) (d : D) : Prop :=
  (trC g w ≠ 0 ∧ d = .tu [.sl 1 [], iv .i64 (trC g w)]) ∨ (trC g w = 0 ∧ ¬ (0 ≤ i ∧ i < trN g w) ∧ d = .tu [.sl 1 [], iv .i64 5]) ∨
  (trC g w = 0 ∧ ∃ (r : Nat) (st : List Int), i = r ∧ r < trN g w ∧ Tk g w [g.k + g.start] 0 [w.length] st r ∧ (d = .tu [.sl 1 (i64s st), iv .i64 0] ∨ (st = [] ∧ d = .tu [.nl, iv .i64 0])))
set_option maxRecDepth 10000 in
set_option maxHeartbeats 4000000 in
theorem pick_spec (g : Grammar) (hg : g.ok) (w : List Int) (hw : w.length ≤ 9223372036854775807) (i : Int) (hi : ok64 i) : Dm.Spec Try.prog 12 [.ag (graD g), .sl 1 (i64s w), iv .i64 i] (fun d => pkR g w i d) := by
  refine spec_of_vc mixed Try.func12 c12 (by rw [show Try.f12.ntmps = _ from Try.ntmps12]; simp) ?_
  unfold m12 r12
  repeat' first | ((first | refine Br.dec ?_ ?_ | refine Br.eqi ?_ ?_) <;> intro h <;> try (exfalso; omega)) | (simp (disch := first | omega | (simp only [vlen]; first | done | omega)) only [vmy, ↓vAq, vBq, ↓reduceIte, Nat.reduceBEq, Nat.reduceEqDiff, Nat.reduceLT, Nat.reduceLeDiff, Nat.reduceAdd, Nat.reduceMul, Nat.reduceSub, reduceCtorEq, Int.reduceToNat]) | (refine Br.mk ?_ ?_ <;> intro h) | (refine BrN.mk (fun h => ?_) ?_) | (refine AltVC.mk ?_ ?_)
  refine CallVC.lendE [] [.ag (graD g), .sl 1 (i64s w)] [] (whole_spec g hg w hw) (by simp) (by rfl) (by (simp (disch := first | omega | (simp only [vlen]; first | done | omega)) only [vle0, ↓vAq, vBq, ↓reduceIte, Nat.reduceBEq, Nat.reduceEqDiff, Nat.reduceLT, Nat.reduceLeDiff, Nat.reduceAdd, Nat.reduceMul, Nat.reduceSub, reduceCtorEq, Int.reduceToNat] <;> (repeat' first | rfl | apply And.intro))) ?_
  rintro _ _ (⟨h1, h2, L, rfl, rfl, hL⟩ | ⟨c, h1, h2, h3, rfl⟩)
  · have e : trC g w = 0 := by unfold trC; rw [if_pos h1, if_neg (by omega)]
    obtain ⟨hc, _, _⟩ := cc_ok e
    have hk := hc.v.k
    have hn := hc.v.n
    have hst := hc.v.start
    have hw12 := hc.w
    by_cases hin : 0 ≤ i ∧ i < trN g w
    · obtain ⟨r, rfl⟩ : ∃ r : Nat, i = r := ⟨i.toNat, by omega⟩
      have hnt := nth_spec g w hc (g.k + g.start) 0 w.length (by omega) (by omega) (Nat.zero_le _) (Nat.le_refl _) h2 r (show r < trN g w by omega) L hL
      repeat' first | ((first | refine Br.dec ?_ ?_ | refine Br.eqi ?_ ?_) <;> intro h <;> try (exfalso; omega)) | (simp (disch := first | omega | (simp only [vlen]; first | done | omega)) only [vmy, ↓vAq, vBq, ↓reduceIte, Nat.reduceBEq, Nat.reduceEqDiff, Nat.reduceLT, Nat.reduceLeDiff, Nat.reduceAdd, Nat.reduceMul, Nat.reduceSub, reduceCtorEq, Int.reduceToNat]) | (refine Br.mk ?_ ?_ <;> intro h) | (refine BrN.mk (fun h => ?_) ?_) | (refine AltVC.mk ?_ ?_)
      refine CallVC.lendE [5, 4] [.ptr 0 6 0 0, iv .i64 (g.k + g.start), .ag [iv .i64 (0 : Nat), iv .i64 w.length], iv .i64 r] (coO g w L) hnt (by simp) (by rfl) (by unfold coO; (simp (disch := first | omega | (simp only [vlen]; first | done | omega)) only [vle0, ↓vAq, vBq, ↓reduceIte, Nat.reduceBEq, Nat.reduceEqDiff, Nat.reduceLT, Nat.reduceLeDiff, Nat.reduceAdd, Nat.reduceMul, Nat.reduceSub, reduceCtorEq, Int.reduceToNat] <;> (repeat' first | rfl | apply And.intro))) ?_
      rintro _ _ ⟨st, L2, hT, hres, rfl, hL2⟩
      unfold coO
      rcases hres with rfl | ⟨rfl, rfl⟩
      · repeat' first | ((first | refine Br.dec ?_ ?_ | refine Br.eqi ?_ ?_) <;> intro h <;> try (exfalso; omega)) | (simp (disch := first | omega | (simp only [vlen]; first | done | omega)) only [vmy, ↓vAq, vBq, ↓reduceIte, Nat.reduceBEq, Nat.reduceEqDiff, Nat.reduceLT, Nat.reduceLeDiff, Nat.reduceAdd, Nat.reduceMul, Nat.reduceSub, reduceCtorEq, Int.reduceToNat]) | (refine Br.mk ?_ ?_ <;> intro h) | (refine BrN.mk (fun h => ?_) ?_) | (refine AltVC.mk ?_ ?_)
        exact fin_mk (.inr (.inr ⟨e, r, st, rfl, by omega, hT, .inl rfl⟩))
      · repeat' first | ((first | refine Br.dec ?_ ?_ | refine Br.eqi ?_ ?_) <;> intro h <;> try (exfalso; omega)) | (simp (disch := first | omega | (simp only [vlen]; first | done | omega)) only [vmy, ↓vAq, vBq, ↓reduceIte, Nat.reduceBEq, Nat.reduceEqDiff, Nat.reduceLT, Nat.reduceLeDiff, Nat.reduceAdd, Nat.reduceMul, Nat.reduceSub, reduceCtorEq, Int.reduceToNat]) | (refine Br.mk ?_ ?_ <;> intro h) | (refine BrN.mk (fun h => ?_) ?_) | (refine AltVC.mk ?_ ?_)
        exact fin_mk (.inr (.inr ⟨e, r, [], rfl, by omega, hT, .inr ⟨rfl, rfl⟩⟩))
    · repeat' first | ((first | refine Br.dec ?_ ?_ | refine Br.eqi ?_ ?_) <;> intro h <;> try (exfalso; omega)) | (simp (disch := first | omega | (simp only [vlen]; first | done | omega)) only [vmy, ↓vAq, vBq, ↓reduceIte, Nat.reduceBEq, Nat.reduceEqDiff, Nat.reduceLT, Nat.reduceLeDiff, Nat.reduceAdd, Nat.reduceMul, Nat.reduceSub, reduceCtorEq, Int.reduceToNat]) | (refine Br.mk ?_ ?_ <;> intro h) | (refine BrN.mk (fun h => ?_) ?_) | (refine AltVC.mk ?_ ?_)
      all_goals exact fin_mk (.inr (.inl ⟨e, hin, rfl⟩))
  · have e : trC g w = c := by
      unfold trC
      by_cases ht : tcode g w = 0
      · rw [if_pos ht] at h2
        rw [if_pos ht, if_pos (h3 ht), h2]
      · rw [if_neg ht] at h2
        rw [if_neg ht, h2]
    repeat' first | ((first | refine Br.dec ?_ ?_ | refine Br.eqi ?_ ?_) <;> intro h <;> try (exfalso; omega)) | (simp (disch := first | omega | (simp only [vlen]; first | done | omega)) only [vmy, ↓vAq, vBq, ↓reduceIte, Nat.reduceBEq, Nat.reduceEqDiff, Nat.reduceLT, Nat.reduceLeDiff, Nat.reduceAdd, Nat.reduceMul, Nat.reduceSub, reduceCtorEq, Int.reduceToNat]) | (refine Br.mk ?_ ?_ <;> intro h) | (refine BrN.mk (fun h => ?_) ?_) | (refine AltVC.mk ?_ ?_)
    exact fin_mk (.inl ⟨by rw [e]; exact h1, by rw [e]⟩)
end Go.Proofs.Ytjekkbpdgnohcaa

namespace Go.Proofs.Ytjekkbpdgnohcaa
open Go.Dm
set_option linter.unusedSimpArgs false
set_option linter.unnecessarySimpa false
set_option linter.unusedVariables false
set_option linter.defProp false
theorem mul_add_inj {A A' P K K' : Nat} (h : A * P + K = A' * P + K') (hK : K < P) (hK' : K' < P) : A = A' ∧ K = K' := by
  have h1 : A = A' := by
    rcases Nat.lt_trichotomy A A' with h2 | h2 | h2
    · have : (A + 1) * P ≤ A' * P := Nat.mul_le_mul_right _ h2
      rw [Nat.succ_mul] at this; omega
    · exact h2
    · have : (A' + 1) * P ≤ A * P := Nat.mul_le_mul_right _ h2
      rw [Nat.succ_mul] at this; omega
  subst h1
  exact ⟨rfl, by omega⟩
theorem sumL_mono {α : Type} {f : α → Nat} {l : List α} {a b : Nat} (h : a ≤ b) : sumL f (l.take a) ≤ sumL f (l.take b) := by
  have : l.take b = l.take a ++ (l.drop a).take (b - a) := by
    rw [← List.take_add]; congr 1; omega
  rw [this, sumL_app]; omega
theorem Tk.inj {g : Grammar} {w : List Int} (hp : Proper g) {l : List Int} {i : Nat} {es : List Nat} {st : List Int} {K : Nat} (h : Tk g w l i es st K) : ∀ {st' : List Int}, Tk g w l i es st' K → st = st' := by
  induction h with
  | nil =>
    intro st' h'
    cases h'; rfl
  | sym hx hw h ih =>
    intro st' h'
    cases h' with
    | sym hx' hw' h' => exact ih h'
    | name hx' => exact absurd hx hx'
  | @name x l i e es q c s1 s2 K1 K2 hx hq hc h1 h2 ih1 ih2 =>
    intro st' h'
    generalize hKK : (rlB g w x i e q + sumL (prT g w (g.rules.getD q default).right i) ((cutN ((g.rules.getD q default).right.length - 1) i e).take c) + K1) * prT g w l e es + K2 = KK at h'
    cases h' with
    | sym hx' => exact absurd hx' hx
    | @name _ _ _ _ _ q' c' s1' s2' K1' K2' hx' hq' hc' h1' h2' =>
      obtain ⟨eA, eK⟩ := mul_add_inj hKK (h2.lt hp) (h2'.lt hp)
      have b1 := h1.lt hp
      have b1' := h1'.lt hp
      have t1 := sumL_take (f := prT g w (g.rules.getD q default).right i) (d := []) hc
      have t1' := sumL_take (f := prT g w (g.rules.getD q' default).right i) (d := []) hc'
      have r1 := cut_sum (g := g) (w := w) _ i e (right_ne hp (rule_lt hq))
      have r1' := cut_sum (g := g) (w := w) _ i e (right_ne hp (rule_lt hq'))
      have v1 := rule_row (w := w) (i := i) (j := e) hq
      have v1' := rule_row (w := w) (i := i) (j := e) hq'
      have n1 : rlB g w x i e (q + 1) = rlB g w x i e q + ruleV g w x i e q := rfl
      have n1' : rlB g w x i e (q' + 1) = rlB g w x i e q' + ruleV g w x i e q' := rfl
      have m1 : q < q' → rlB g w x i e (q + 1) ≤ rlB g w x i e q' := fun h => nsum_mono h
      have m1' : q' < q → rlB g w x i e (q' + 1) ≤ rlB g w x i e q := fun h => nsum_mono h
      obtain rfl : q = q' := by omega
      have s1e := sumL_take_succ (f := prT g w (g.rules.getD q default).right i) (d := []) hc
      have s1e' := sumL_take_succ (f := prT g w (g.rules.getD q default).right i) (d := []) hc'
      have k1 : c < c' → sumL (prT g w (g.rules.getD q default).right i) ((cutN ((g.rules.getD q default).right.length - 1) i e).take (c + 1)) ≤ sumL (prT g w (g.rules.getD q default).right i) ((cutN ((g.rules.getD q default).right.length - 1) i e).take c') := fun h => sumL_mono h
      have k1' : c' < c → sumL (prT g w (g.rules.getD q default).right i) ((cutN ((g.rules.getD q default).right.length - 1) i e).take (c' + 1)) ≤ sumL (prT g w (g.rules.getD q default).right i) ((cutN ((g.rules.getD q default).right.length - 1) i e).take c) := fun h => sumL_mono h
      obtain rfl : c = c' := by omega
      obtain rfl : K1 = K1' := by omega
      subst eK
      rw [ih1 h1', ih2 h2']
def addR (g : Grammar) (r : Rule) : Grammar := ⟨g.k, g.n, g.start, g.rules ++ [r]⟩
def dropR (g : Grammar) : Grammar := ⟨g.k, g.n, g.start, g.rules.take (g.rules.length - 1)⟩
def rcode (g : Grammar) (r : Rule) : Int := if gcode (addR g r) = 0 then (if isProper (addR g r) = true then 0 else 3) else gcode (addR g r)
def nxG (g : Grammar) (d : Deed) : Grammar :=
  if d.kind = 1 then (if rcode g d.rule = 0 then addR g d.rule else g)
  else if d.kind = 2 then (if g.rules.length = 0 then g else dropR g)
  else g
def nxs (g : Grammar) (l : List Deed) : Grammar := l.foldl nxG g
theorem nxs_nil {g : Grammar} : nxs g [] = g := rfl
theorem nxs_snoc {g : Grammar} {l : List Deed} {d : Deed} : nxs g (l ++ [d]) = nxG (nxs g l) d := by unfold nxs; rw [List.foldl_append]; rfl
theorem nxs_app {g : Grammar} {l m : List Deed} : nxs g (l ++ m) = nxs (nxs g l) m := by unfold nxs; rw [List.foldl_append]
inductive TO (g : Grammar) (d : Deed) : Int → Int → List Int → Prop
  | rule (h : d.kind = 1) : TO g d (rcode g d.rule) (if rcode g d.rule = 0 then (g.rules.length : Int) else 0) []
  | undo (h : d.kind = 2) : TO g d (if g.rules.length = 0 then 5 else 0) 0 []
  | many (h : d.kind = 3) : TO g d (trC g d.word) (if trC g d.word = 0 then (trN g d.word : Int) else 0) []
  | pickC (h : d.kind = 4) (e : trC g d.word ≠ 0) : TO g d (trC g d.word) 0 []
  | pickN (h : d.kind = 4) (e : trC g d.word = 0) (hn : ¬ (0 ≤ d.n ∧ d.n < trN g d.word)) : TO g d 5 0 []
  | pick (h : d.kind = 4) (e : trC g d.word = 0) (r : Nat) (st : List Int) (hr : d.n = r) (hl : r < trN g d.word) (hT : Tk g d.word [g.k + g.start] 0 [d.word.length] st r) : TO g d 0 0 st
  | plC (h : d.kind = 5) (e : trC g d.word ≠ 0) : TO g d (trC g d.word) 0 []
  | plL (h : d.kind = 5) (e : trC g d.word = 0) (hl : 60 < d.steps.length) : TO g d 1 0 []
  | plN (h : d.kind = 5) (e : trC g d.word = 0) (hl : d.steps.length ≤ 60) (hn : ∀ K, ¬ Tk g d.word [g.k + g.start] 0 [d.word.length] d.steps K) : TO g d 5 0 []
  | pl (h : d.kind = 5) (e : trC g d.word = 0) (hl : d.steps.length ≤ 60) (K : Nat) (hT : Tk g d.word [g.k + g.start] 0 [d.word.length] d.steps K) : TO g d 0 K []
  | none (h : ¬ (1 ≤ d.kind ∧ d.kind ≤ 5)) : TO g d 6 0 []
theorem TO.det {g : Grammar} {d : Deed} {c n c' n' : Int} {st st' : List Int} (h : TO g d c n st) (h' : TO g d c' n' st') : c = c' ∧ n = n' ∧ st = st' := by
  cases h <;> cases h' <;> first
    | exact ⟨rfl, rfl, rfl⟩
    | (exfalso; omega)
    | (exfalso; contradiction)
    | (exfalso; apply_assumption; exact ⟨by omega, by omega⟩)
    | skip
  · rename_i h1 e1 r1 hr1 hl1 hT1 h2 e2 r2 hr2 hl2 hT2
    obtain rfl : r1 = r2 := by omega
    exact ⟨rfl, rfl, Tk.inj (cc_ok e1).1.p hT1 hT2⟩
  · rename_i h1 e1 hl1 hn1 h2 e2 hl2 K hT
    exact absurd hT (hn1 K)
  · rename_i h1 e1 hl1 K hT h2 e2 hl2 hn2
    exact absurd hT (hn2 K)
  · rename_i h1 e1 hl1 K hT1 h2 e2 hl2 K2 hT2
    have := (hT1.det hT2 (r := []) (r' := []) rfl).2.2.1
    subst this
    exact ⟨rfl, rfl, rfl⟩
theorem tsum_le_of {f h : Nat → Nat} {a b : Nat} (hh : ∀ m, f m ≤ h m) : tsum f a b ≤ tsum h a b := nsum_le_of fun m _ => by
  split
  · exact hh m
  · exact Nat.le_refl _
theorem rowT_mono {T T' : Int → Nat → Nat → Nat} (h : ∀ s a b, T s a b ≤ T' s a b) : ∀ {l : List Int} {i j : Nat}, rowT T l i j ≤ rowT T' l i j
  | [], _, _ => Nat.le_refl _
  | [s], i, j => h s i j
  | s :: s' :: l, i, j => tsum_le_of fun m => Nat.mul_le_mul (h s i m) (rowT_mono h (l := s' :: l))
theorem treeF_mono {g : Grammar} {r : Rule} {w : List Int} : ∀ {f : Nat} {x : Int} {i j : Nat}, treeF g w f x i j ≤ treeF (addR g r) w f x i j
  | 0, x, i, j => Nat.le_refl _
  | f + 1, x, i, j => by
    by_cases hx : x < g.k
    · rw [treeF_sym hx, treeF_sym (g := addR g r) hx]; exact Nat.le_refl _
    · have hx' : ¬ x < (addR g r).k := hx
      simp only [treeF, if_neg hx, if_neg hx']
      have hl : (addR g r).rules.length = g.rules.length + 1 := by simp [addR]
      refine Nat.le_trans (nsum_le_of fun q hq => ?_) (nsum_mono (by rw [hl]; exact Nat.le_succ _))
      have e : (addR g r).rules.getD q default = g.rules.getD q default := by
        simp only [addR, List.getD_eq_getElem?_getD]
        rw [List.getElem?_append_left hq]
      rw [e]
      show _ ≤ if (g.rules.getD q default).left = x - g.k then _ else 0
      split
      · exact rowT_mono fun s a b => treeF_mono
      · exact Nat.le_refl _
theorem trN_mono {g : Grammar} {r : Rule} {w : List Int} : trN g w ≤ trN (addR g r) w := treeF_mono
def VG (g : Grammar) : Prop := gcode g = 0 ∧ isProper g = true
theorem gcode_of {g : Grammar} (h : Valid g) : gcode g = 0 := by
  have hk := h.k
  have hn := h.n
  have hl := h.len
  have hs := h.start
  rw [gcode_b, if_neg (by omega), if_neg, if_neg (by omega), if_neg]
  · rw [Bool.not_eq_true, List.any_eq_false]
    intro r hr
    have h1 := h.left r hr
    unfold badRule isSigns
    rw [decide_eq_true h1, Bool.true_and, Bool.not_eq_true', Bool.not_eq_false, List.all_eq_true]
    exact fun y hy => decide_eq_true (h.right r hr y hy)
  · rw [Bool.not_eq_true, List.any_eq_false]
    intro r hr
    have := h.long r hr
    simp; omega
theorem rcode_ok {g : Grammar} {r : Rule} (h : rcode g r = 0) : VG (addR g r) := by
  unfold rcode at h
  split at h
  · next h1 =>
    split at h
    · next h2 => exact ⟨h1, h2⟩
    · omega
  · next h1 => exact absurd h h1
theorem VG.drop {g : Grammar} (h : VG g) : VG (dropR g) := by
  have hv := valid_of h.1
  have hm : ∀ r, r ∈ (dropR g).rules → r ∈ g.rules := fun r hr => List.mem_of_mem_take hr
  refine ⟨gcode_of ⟨hv.k, hv.n, hv.start, ?_, fun r hr => hv.left r (hm r hr), fun r hr => hv.long r (hm r hr), fun r hr => hv.right r (hm r hr)⟩, ?_⟩
  · have := hv.len
    simp only [dropR, List.length_take]; omega
  · have h2 := h.2
    unfold isProper at h2 ⊢
    rw [List.all_eq_true] at h2 ⊢
    exact fun r hr => h2 r (hm r hr)
theorem VG.nx {g : Grammar} (h : VG g) (d : Deed) : VG (nxG g d) := by
  unfold nxG
  split
  · split
    · next h2 => exact rcode_ok h2
    · exact h
  · split
    · split
      · exact h
      · exact h.drop
    · exact h
theorem VG.nxs {g : Grammar} (h : VG g) (l : List Deed) : VG (nxs g l) := by
  induction l generalizing g with
  | nil => exact h
  | cons d l ih => exact ih (h.nx d)
theorem VG.tcode {g : Grammar} (h : VG g) (w : List Int) : tcode g w = wcode g.k w := by
  unfold Go.Proofs.Ytjekkbpdgnohcaa.tcode
  rw [if_pos h.1]
  split
  · next e => rw [if_pos h.2, e]
  · rfl
theorem ok_add {g : Grammar} (h : VG g) (hg : g.ok) {r : Rule} (hr : r.ok) : (addR g r).ok :=
  ⟨hg.1, hg.2.1, hg.2.2.1, by
    have := (valid_of h.1).len
    simp only [addR, List.length_append, List.length_singleton]
    exact Nat.le_trans (by omega) (show 11 ≤ maxLen by decide), fun x hx => by
    rcases List.mem_append.1 hx with hx | hx
    · exact hg.2.2.2.2 x hx
    · rw [List.mem_singleton.1 hx]; exact hr⟩
theorem ok_drop {g : Grammar} (hg : g.ok) : (dropR g).ok :=
  ⟨hg.1, hg.2.1, hg.2.2.1, by
    have := hg.2.2.2.1
    simp only [dropR, List.length_take]; omega, fun x hx => hg.2.2.2.2 x (List.mem_of_mem_take hx)⟩
theorem ok_nx {g : Grammar} (h : VG g) (hg : g.ok) {d : Deed} (hd : d.ok) : (nxG g d).ok := by
  unfold nxG
  split
  · split
    · exact ok_add h hg hd.2.1
    · exact hg
  · split
    · split
      · exact hg
      · exact ok_drop hg
    · exact hg
end Go.Proofs.Ytjekkbpdgnohcaa
