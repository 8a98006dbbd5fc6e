/-
  pick: ranges, many, cuts.
-/
import Derived.Test.YtjekkbpdgnohcaaCtr
import Derived.Test.YtjekkbpdgnohcaaWhole
import Derived.Test.YtjekkbpdgnohcaaKd
import Derived.Test.YtjekkbpdgnohcaaCuts
namespace Go.Proofs.Ytjekkbpdgnohcaa
open Go.Dm
set_option linter.unusedSimpArgs false
set_option linter.unnecessarySimpa false
set_option linter.unusedVariables false
set_option linter.defProp false
def nI (l : List Nat) : List Int := l.map fun i : Nat => (i : Int)
theorem nI_len {l : List Nat} : (nI l).length = l.length := by simp [nI]
theorem nI_get {l : List Nat} {i : Nat} (h : i < l.length) : (nI l).getD i 0 = ((l.getD i 0 : Nat) : Int) := by simp [nI, List.getD, h]
theorem cutL_N : ∀ (n i j : Nat), cutL n i j = (cutN n i j).map nI
  | 0, i, j => by simp [cutL, cutN, nI]
  | n + 1, i, j => by
    unfold cutL cutN
    rw [List.map_flatMap]
    congr 1
    funext q
    rw [cutL_N n, List.map_map, List.map_map]
    rfl
theorem cutRows_len {n i j : Nat} : (cutRows n i j).length = (cutN n i j).length := by simp [cutRows, cutL_N]
theorem cutRows_get {n i j c : Nat} (h : c < (cutN n i j).length) : (cutRows n i j).getD c [] = [.sl 1 (i64s (nI ((cutN n i j).getD c [])))] := by
  simp [cutRows, cutL_N, List.getD, h]
def stA (i : Nat) (es : List Nat) (k : Nat) : Nat := if k = 0 then i else es.getD (k - 1) 0
def rgs : Nat → List Nat → List (Nat × Nat)
  | _, [] => []
  | i, e :: es => (i, e) :: rgs e es
theorem rgs_len : ∀ {es : List Nat} {i : Nat}, (rgs i es).length = es.length
  | [], _ => rfl
  | e :: es, i => by simp [rgs, rgs_len]
theorem stA_cons {i e : Nat} {es : List Nat} {k : Nat} : stA i (e :: es) (k + 1) = stA e es k := by
  unfold stA
  rw [if_neg (by omega), Nat.add_sub_cancel]
  cases k with
  | zero => rfl
  | succ k => rw [if_neg (by omega)]; rfl
theorem rgs_take : ∀ {es : List Nat} {i k : Nat}, k < es.length → rgs i (es.take (k + 1)) = rgs i (es.take k) ++ [(stA i es k, es.getD k 0)]
  | [], i, k, h => absurd h (Nat.not_lt_zero _)
  | e :: es, i, 0, h => by simp [rgs, stA]
  | e :: es, i, k + 1, h => by
    rw [List.take_succ_cons, List.take_succ_cons, rgs, rgs, rgs_take (by simpa using h), stA_cons]
    rfl
theorem rgs_get : ∀ {es : List Nat} {i k : Nat}, k < es.length → (rgs i es).getD k default = (stA i es k, es.getD k 0)
  | [], i, k, h => absurd h (Nat.not_lt_zero _)
  | e :: es, i, 0, h => by simp [rgs, stA]
  | e :: es, i, k + 1, h => by
    rw [rgs, List.getD_cons_succ, rgs_get (by simpa using h), stA_cons]; rfl
theorem rgs_drop : ∀ {es : List Nat} {i k : Nat}, k ≤ es.length → (rgs i es).drop k = rgs (stA i es k) (es.drop k)
  | es, i, 0, _ => by simp [stA]
  | [], i, k + 1, h => by simp at h
  | e :: es, i, k + 1, h => by
    rw [rgs, List.drop_succ_cons, List.drop_succ_cons, rgs_drop (by simpa using h), stA_cons]
theorem prT_take {g : Grammar} {w : List Int} : ∀ {l : List Int} {es : List Nat} {i k : Nat}, k < l.length → k < es.length → prT g w (l.take (k + 1)) i es = prT g w (l.take k) i es * trees g w (l.getD k 0) (stA i es k) (es.getD k 0)
  | [], es, i, k, h, _ => absurd h (Nat.not_lt_zero _)
  | x :: l, [], i, k, _, h => absurd h (Nat.not_lt_zero _)
  | x :: l, e :: es, i, 0, _, _ => by simp [prT, stA]
  | x :: l, e :: es, i, k + 1, h1, h2 => by
    rw [List.take_succ_cons, List.take_succ_cons, prT_cons, prT_cons, prT_take (by simpa using h1) (by simpa using h2), stA_cons, Nat.mul_assoc]
    rfl
def Mono : Nat → List Nat → Nat → Prop
  | _, [], _ => True
  | i, e :: es, j => i ≤ e ∧ e ≤ j ∧ Mono e es j
theorem Mono.get : ∀ {es : List Nat} {i j k : Nat}, Mono i es j → k < es.length → stA i es k ≤ es.getD k 0 ∧ es.getD k 0 ≤ j
  | [], i, j, k, _, h => absurd h (Nat.not_lt_zero _)
  | e :: es, i, j, 0, h, _ => ⟨h.1, h.2.1⟩
  | e :: es, i, j, k + 1, h, hk => by
    rw [stA_cons]; exact h.2.2.get (by simpa using hk)
theorem Mono.drop : ∀ {es : List Nat} {i j k : Nat}, Mono i es j → k ≤ es.length → Mono (stA i es k) (es.drop k) j
  | es, i, j, 0, h, _ => by simpa [stA] using h
  | [], i, j, k + 1, h, hk => by simp at hk
  | e :: es, i, j, k + 1, h, hk => by
    rw [stA_cons]; exact h.2.2.drop (by simpa using hk)
theorem cutN_mono : ∀ {n i j : Nat} {c : List Nat}, i ≤ j → c ∈ cutN n i j → Mono i c j
  | 0, i, j, c, h, hc => by simp [cutN] at hc; subst hc; exact ⟨h, Nat.le_refl _, trivial⟩
  | n + 1, i, j, c, h, hc => by
    simp only [cutN, List.mem_flatMap, List.mem_map, List.mem_range] at hc
    obtain ⟨q, hq, r, hr, rfl⟩ := hc
    exact ⟨by omega, by omega, cutN_mono (by omega) hr⟩
theorem cutN_short : ∀ {n i j : Nat} {c : List Nat}, c ∈ cutN n i j → ∀ k, k < c.length → 0 < n → c.getD k 0 - stA i c k < j - i
  | 0, i, j, c, hc, k, hk, h => by omega
  | n + 1, i, j, c, hc, k, hk, _ => by
    simp only [cutN, List.mem_flatMap, List.mem_map, List.mem_range] at hc
    obtain ⟨q, hq, r, hr, rfl⟩ := hc
    cases k with
    | zero => simp [stA]; omega
    | succ k =>
      have hm := cutN_mono (show i + 1 + q ≤ j by omega) hr
      rw [stA_cons]
      have hk' : k < r.length := by simpa using hk
      have h1 := hm.get hk'
      show r.getD k 0 - _ < _
      have h2 : i + 1 + q ≤ stA (i + 1 + q) r k := by
        cases k with
        | zero => simp [stA]
        | succ k =>
          have : ∀ {es : List Nat} {a b k : Nat}, Mono a es b → k < es.length → a ≤ es.getD k 0 := by
            intro es
            induction es with
            | nil => intro a b k _ h; exact absurd h (Nat.not_lt_zero _)
            | cons e es ih =>
              intro a b k h hk
              cases k with
              | zero => exact h.1
              | succ k => exact Nat.le_trans h.1 (ih h.2.2 (by simpa using hk))
          unfold stA
          rw [if_neg (by omega), Nat.add_sub_cancel]
          exact this hm (by omega)
      omega
def rgD (p : Nat × Nat) : List D := [iv .i64 p.1, iv .i64 p.2]
theorem rg_app {l : List (Nat × Nat)} {a b : Nat} : tbl rgD l ++ [[D.v (.int .i64 a), D.v (.int .i64 b)]] = tbl rgD (l ++ [(a, b)]) := by rw [tbl_app]; rfl
theorem rgD_mk {a b : Nat} : rgD (a, b) = [D.v (.int .i64 a), D.v (.int .i64 b)] := (rfl)
def vmy := And.intro vke <| And.intro @nI_len <| And.intro @nI_get <| And.intro @rg_app <| And.intro @rgs_len @rgD_mk
set_option maxRecDepth 10000 in
set_option maxHeartbeats 4000000 in
theorem ranges_spec (i : Nat) (es : List Nat) (hi : i ≤ 1000) (hl : es.length ≤ 1000) (hm : ∀ e, e ∈ es → e ≤ 1000) : Dm.Spec Try.prog 47 [iv .i64 i, .sl 1 (i64s (nI es))] (· = .sl 2 (tbl rgD (rgs i es))) := by
  refine spec_of_vc mixed Try.func47 c47 (by rw [show Try.f47.ntmps = _ from Try.ntmps47]; simp) ?_
  unfold m47 r47
  have hnl := @nI_len es
  repeat' first | ((first | refine Br.dec ?_ ?_ | refine Br.eqi ?_ ?_) <;> intro h <;> try (exfalso; omega)) | (simp (disch := (first | omega | (simp only [vlen]; first | done | omega))) only [vmy, ↓vAq, vBq, ↓reduceIte, Nat.reduceBEq, Nat.reduceEqDiff, Nat.reduceLT, Nat.reduceLeDiff, Nat.reduceAdd, Nat.reduceMul, Nat.reduceSub, reduceCtorEq, Int.reduceToNat]) | (refine Br.mk ?_ ?_ <;> intro h) | (refine BrN.mk (fun h => ?_) ?_) | (refine AltVC.mk ?_ ?_)
  refine LoopVC.mk (X := Nat) (fun k => [(5, .ref 1 2 0 k), (0, iv .i64 (stA i es k)), (10, iv .i64 k)]) (fun k => [(1, ⟨2, tbl rgD (rgs i (es.take k)), true, false, .arr⟩)]) (fun k => es.length - k) (fun k => k ≤ es.length) 0 (Nat.zero_le _) ?_ ?_
  · simp only [List.take_zero]
    (simp (disch := (first | omega | (simp only [vlen]; first | done | omega))) only [Fits_u, Fits_m, Fits_nil, List.length_append, vmy, ↓vAq, vBq, ↓reduceIte, Nat.reduceBEq, Nat.reduceEqDiff, Nat.reduceLT, Nat.reduceLeDiff, Nat.reduceAdd, Nat.reduceMul, Nat.reduceSub, reduceCtorEq, Int.reduceToNat] <;> (repeat' first | rfl | apply And.intro))
    all_goals first | rfl | trace_state
  · intro k hk
    have hkl : (rgs i (es.take k)).length = k := by rw [rgs_len, List.length_take]; omega
    by_cases hke : k < es.length
    · have hr := @rgs_take es i k hke
      have hst : stA i es (k + 1) = es.getD k 0 := by unfold stA; rw [if_neg (by omega), Nat.add_sub_cancel]
      repeat' first | ((first | refine Br.dec ?_ ?_ | refine Br.eqi ?_ ?_) <;> intro h <;> try (exfalso; omega)) | (simp (disch := (first | omega | (simp only [vlen]; first | done | omega))) only [vmy, ↓vAq, vBq, ↓reduceIte, Nat.reduceBEq, Nat.reduceEqDiff, Nat.reduceLT, Nat.reduceLeDiff, Nat.reduceAdd, Nat.reduceMul, Nat.reduceSub, reduceCtorEq, Int.reduceToNat]) | (refine Br.mk ?_ ?_ <;> intro h) | (refine BrN.mk (fun h => ?_) ?_) | (refine AltVC.mk ?_ ?_)
      refine loopK.mk (k + 1) (by simp (disch := (first | omega | (simp only [vlen]; first | done | omega))) only [↓vAq, vBq, ↓reduceIte, Nat.reduceBEq, Nat.reduceEqDiff, Nat.reduceLT, Nat.reduceLeDiff, Nat.reduceAdd, Nat.reduceMul, Nat.reduceSub, reduceCtorEq, Int.reduceToNat]) (by omega) (by omega) ?_
      simp only [hr, hst]
      (simp (disch := (first | omega | (simp only [vlen]; first | done | omega))) only [Fits_u, Fits_m, Fits_nil, List.length_append, vmy, ↓vAq, vBq, ↓reduceIte, Nat.reduceBEq, Nat.reduceEqDiff, Nat.reduceLT, Nat.reduceLeDiff, Nat.reduceAdd, Nat.reduceMul, Nat.reduceSub, reduceCtorEq, Int.reduceToNat] <;> (repeat' first | rfl | apply And.intro))
    · have e : k = es.length := by omega
      subst e
      rw [List.take_length] at hkl ⊢
      repeat' first | ((first | refine Br.dec ?_ ?_ | refine Br.eqi ?_ ?_) <;> intro h <;> try (exfalso; omega)) | (simp (disch := (first | omega | (simp only [vlen]; first | done | omega))) only [vmy, ↓vAq, vBq, ↓reduceIte, Nat.reduceBEq, Nat.reduceEqDiff, Nat.reduceLT, Nat.reduceLeDiff, Nat.reduceAdd, Nat.reduceMul, Nat.reduceSub, reduceCtorEq, Int.reduceToNat]) | (refine Br.mk ?_ ?_ <;> intro h) | (refine BrN.mk (fun h => ?_) ?_) | (refine AltVC.mk ?_ ?_)
      exact fin_mk rfl
def myO (g : Grammar) (w : List Int) (L : List KE) : List (Nat × Ob) := [(0, ⟨6, [[iv .i64 g.k, iv .i64 g.n, iv .i64 g.start, .sl 2 (tbl rulD g.rules), .sl 1 (i64s w), .mp 1]], false, false, .fix⟩), (1, ⟨5, tbl keD L, true, false, .map [.i64, .i64, .i64, .i64] true false⟩)]
set_option maxRecDepth 10000 in
set_option maxHeartbeats 4000000 in
theorem many_spec (g : Grammar) (w : List Int) (hc : CC g w) (l : List Int) (i j : Nat) (es : List Nat) (hl : l.length = es.length) (hl2 : l.length ≤ 1000) (hs : ∀ x, x ∈ l → 0 ≤ x ∧ x < g.k + g.n) (hm : Mono i es j) (hj : j ≤ w.length) (L : List KE) (hL : MI g w L) : Dm.SpecH Try.prog 48 [.ptr 0 6 0 0, .sl 1 (i64s l), .sl 2 (tbl rgD (rgs i es))] (coO g w L) (coR g w (prT g w l i es)) := by
  refine specH_of_vc mixed Try.func48 c48 (by rw [show Try.f48.ntmps = _ from Try.ntmps48]; simp) ?_
  unfold m48 r48
  have hw := hc.w
  have hrl : (rgs i es).length = l.length := by rw [rgs_len, hl]
  unfold coO
  repeat' first | ((first | refine Br.dec ?_ ?_ | refine Br.eqi ?_ ?_) <;> intro h <;> try (exfalso; omega)) | (simp (disch := (first | omega | (simp only [vlen]; first | done | omega))) only [vmy, ↓vAq, vBq, ↓reduceIte, Nat.reduceBEq, Nat.reduceEqDiff, Nat.reduceLT, Nat.reduceLeDiff, Nat.reduceAdd, Nat.reduceMul, Nat.reduceSub, reduceCtorEq, Int.reduceToNat]) | (refine Br.mk ?_ ?_ <;> intro h) | (refine BrN.mk (fun h => ?_) ?_) | (refine AltVC.mk ?_ ?_)
  refine LoopVC.mk (X := Nat × List KE) (fun x => [(7, iv .i64 (cp (prT g w (l.take x.1) i es))), (12, iv .i64 x.1)]) (fun x => myO g w x.2) (fun x => l.length - x.1) (fun x => x.1 ≤ l.length ∧ MI g w x.2) (0, L) ⟨Nat.zero_le _, hL⟩ ?_ ?_
  · unfold myO
    simp only [List.take_zero, prT_nil]
    (simp (disch := (first | omega | (simp only [vlen]; first | done | omega))) only [Fits_u, Fits_m, Fits_nil, List.length_append, vmy, ↓vAq, vBq, ↓reduceIte, Nat.reduceBEq, Nat.reduceEqDiff, Nat.reduceLT, Nat.reduceLeDiff, Nat.reduceAdd, Nat.reduceMul, Nat.reduceSub, reduceCtorEq, Int.reduceToNat] <;> (repeat' first | rfl | apply And.intro))
    all_goals first | rfl | trace_state
  · rintro ⟨k, Lx⟩ ⟨hk, hLx⟩
    simp only at hk hLx ⊢
    unfold myO
    by_cases hkl : k < l.length
    · have hp := @prT_take g w l es i k hkl (by omega)
      have hx := hs _ (getD_mem (l := l) (i := k) (d := 0) hkl)
      have hg := hm.get (k := k) (by omega)
      have hr := @rgs_get es i k (by omega)
      repeat' first | ((first | refine Br.dec ?_ ?_ | refine Br.eqi ?_ ?_) <;> intro h <;> try (exfalso; omega)) | (simp (disch := (first | omega | (simp only [vlen]; first | done | omega))) only [vmy, hr, ↓vAq, vBq, ↓reduceIte, Nat.reduceBEq, Nat.reduceEqDiff, Nat.reduceLT, Nat.reduceLeDiff, Nat.reduceAdd, Nat.reduceMul, Nat.reduceSub, reduceCtorEq, Int.reduceToNat]) | (refine Br.mk ?_ ?_ <;> intro h) | (refine BrN.mk (fun h => ?_) ?_) | (refine AltVC.mk ?_ ?_)
      refine CallVC.lendE [0, 1] [.ptr 0 6 0 0, iv .i64 (l.getD k 0), .ag [iv .i64 (stA i es k), iv .i64 (es.getD k 0)]] (coO g w Lx) (sign_spec g w hc _ _ _ hx.1 hx.2 hg.1 (by omega) Lx hLx) (by simp) (by rfl) (by unfold coO; (simp (disch := (first | omega | (simp only [vlen]; first | done | omega))) only [vle0, ↓vAq, vBq, ↓reduceIte, Nat.reduceBEq, Nat.reduceEqDiff, Nat.reduceLT, Nat.reduceLeDiff, Nat.reduceAdd, Nat.reduceMul, Nat.reduceSub, reduceCtorEq, Int.reduceToNat] <;> (repeat' first | rfl | apply And.intro))) ?_
      rintro _ _ ⟨L2, rfl, rfl, hL2⟩
      unfold coO
      repeat' first | ((first | refine Br.dec ?_ ?_ | refine Br.eqi ?_ ?_) <;> intro h <;> try (exfalso; omega)) | (simp (disch := (first | omega | (simp only [vlen]; first | done | omega))) only [vmy, ↓vAq, vBq, ↓reduceIte, Nat.reduceBEq, Nat.reduceEqDiff, Nat.reduceLT, Nat.reduceLeDiff, Nat.reduceAdd, Nat.reduceMul, Nat.reduceSub, reduceCtorEq, Int.reduceToNat]) | (refine Br.mk ?_ ?_ <;> intro h) | (refine BrN.mk (fun h => ?_) ?_) | (refine AltVC.mk ?_ ?_)
      refine CallVC.eq (times_cp _ _) ?_
      repeat' first | ((first | refine Br.dec ?_ ?_ | refine Br.eqi ?_ ?_) <;> intro h <;> try (exfalso; omega)) | (simp (disch := (first | omega | (simp only [vlen]; first | done | omega))) only [vmy, ↓vAq, vBq, ↓reduceIte, Nat.reduceBEq, Nat.reduceEqDiff, Nat.reduceLT, Nat.reduceLeDiff, Nat.reduceAdd, Nat.reduceMul, Nat.reduceSub, reduceCtorEq, Int.reduceToNat]) | (refine Br.mk ?_ ?_ <;> intro h) | (refine BrN.mk (fun h => ?_) ?_) | (refine AltVC.mk ?_ ?_)
      refine loopK.mk (k + 1, L2) (by simp (disch := (first | omega | (simp only [vlen]; first | done | omega))) only [↓vAq, vBq, ↓reduceIte, Nat.reduceBEq, Nat.reduceEqDiff, Nat.reduceLT, Nat.reduceLeDiff, Nat.reduceAdd, Nat.reduceMul, Nat.reduceSub, reduceCtorEq, Int.reduceToNat]) ⟨by show k + 1 ≤ l.length; omega, hL2⟩ (by show l.length - (k + 1) < l.length - k; omega) ?_
      simp only [hp]
      (simp (disch := (first | omega | (simp only [vlen]; first | done | omega))) only [Fits_u, Fits_m, Fits_nil, List.length_append, vmy, ↓vAq, vBq, ↓reduceIte, Nat.reduceBEq, Nat.reduceEqDiff, Nat.reduceLT, Nat.reduceLeDiff, Nat.reduceAdd, Nat.reduceMul, Nat.reduceSub, reduceCtorEq, Int.reduceToNat] <;> (repeat' first | rfl | apply And.intro))
      all_goals first | rfl | trace_state
    · have e : l.take k = l := List.take_of_length_le (by omega)
      rw [e]
      repeat' first | ((first | refine Br.dec ?_ ?_ | refine Br.eqi ?_ ?_) <;> intro h <;> try (exfalso; omega)) | (simp (disch := (first | omega | (simp only [vlen]; first | done | omega))) only [vmy, ↓vAq, vBq, ↓reduceIte, Nat.reduceBEq, Nat.reduceEqDiff, Nat.reduceLT, Nat.reduceLeDiff, Nat.reduceAdd, Nat.reduceMul, Nat.reduceSub, reduceCtorEq, Int.reduceToNat]) | (refine Br.mk ?_ ?_ <;> intro h) | (refine BrN.mk (fun h => ?_) ?_) | (refine AltVC.mk ?_ ?_)
      exact ctr_fin (L := Lx) (by simp (disch := (first | omega | (simp only [vlen]; first | done | omega))) only [vmy, ↓vAq, vBq, ↓reduceIte, Nat.reduceBEq, Nat.reduceEqDiff, Nat.reduceLT, Nat.reduceLeDiff, Nat.reduceAdd, Nat.reduceMul, Nat.reduceSub, reduceCtorEq, Int.reduceToNat]) (by unfold coO; simp (disch := (first | omega | (simp only [vlen]; first | done | omega))) only [vmy, ↓vAq, vBq, ↓reduceIte, Nat.reduceBEq, Nat.reduceEqDiff, Nat.reduceLT, Nat.reduceLeDiff, Nat.reduceAdd, Nat.reduceMul, Nat.reduceSub, reduceCtorEq, Int.reduceToNat]) rfl hLx
end Go.Proofs.Ytjekkbpdgnohcaa
