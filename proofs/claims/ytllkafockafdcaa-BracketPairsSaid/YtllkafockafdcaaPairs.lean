/-
  bracket.Pairs: which bracket is with which one; the law BracketPairs.
-/
import Derived.Test.YtllkafockafdcaaBracket
namespace Go.Proofs.Ytllkafockafdcaa
open Go.Dm
set_option linter.unusedSimpArgs false
set_option linter.unnecessarySimpa false
set_option linter.unusedVariables false

theorem bal_app {b : List Bool} : ∀ {a : List Bool} {m n : Int}, 0 ≤ m → 0 ≤ n → bal a m = true → bal (a ++ b) (m + n) = bal b n
  | [], m, n, hm, hn, h => by
    rw [bal, decide_eq_true_eq] at h
    rw [h, List.nil_append, Int.zero_add]
  | c :: a, m, n, hm, hn, h => by
    rw [List.cons_append, bal]
    rw [bal] at h
    cases c
    · simp only [Bool.false_eq_true, if_false] at h ⊢
      by_cases hc : m - 1 < 0
      · rw [if_pos hc] at h; cases h
      · rw [if_neg hc] at h
        rw [if_neg (by omega), show m + n - 1 = (m - 1) + n by omega]
        exact bal_app (by omega) hn h
    · simp only [if_true] at h ⊢
      rw [if_neg (by omega)] at h
      rw [if_neg (by omega), show m + n + 1 = (m + 1) + n by omega]
      exact bal_app (by omega) hn h
theorem bal_wrap {a c : List Bool} (ha : bal a 0 = true) (hc : bal c 0 = true) : bal (a ++ true :: c ++ [false]) 0 = true := by
  rw [List.append_assoc]
  have := bal_app (b := true :: c ++ [false]) (Int.le_refl 0) (Int.le_refl 0) ha
  rw [Int.add_zero] at this
  rw [this, List.cons_append, bal]
  simp only [if_true]
  rw [if_neg (by omega)]
  have h2 := bal_app (b := [false]) (n := 1) (Int.le_refl 0) (by omega) hc
  rw [h2]; rfl
theorem bal_stop {a c : List Bool} (ha : bal a 0 = true) : bal (a ++ false :: c) 0 = false := by
  have := bal_app (b := false :: c) (Int.le_refl 0) (Int.le_refl 0) ha
  rw [Int.add_zero] at this
  rw [this, bal]; rfl
def seg (l : List Bool) (a b : Nat) : List Bool := (l.take b).drop a
theorem seg_self {l : List Bool} {a : Nat} : seg l a a = [] := by
  unfold seg
  exact List.drop_eq_nil_of_le (by rw [List.length_take]; omega)
theorem seg_succ {l : List Bool} {a b : Nat} (h : a ≤ b) (hb : b < l.length) : seg l a (b + 1) = seg l a b ++ [l.getD b false] := by
  unfold seg
  rw [take_succ_getD hb false, List.drop_append_of_le_length (by rw [List.length_take]; omega)]
theorem seg_split {l : List Bool} {a k : Nat} (ha : a ≤ k) : ∀ {b : Nat}, k < b → b ≤ l.length → seg l a b = seg l a k ++ l.getD k false :: seg l (k + 1) b
  | 0, h, _ => by omega
  | b + 1, h, hb => by
    by_cases e : k = b
    · subst e; rw [seg_succ ha (by omega), seg_self]
    · rw [seg_succ (by omega) (by omega), seg_succ (by omega) (by omega), seg_split ha (b := b) (by omega) (by omega)]
      simp
/-- One that opens at k is closed at j. -/
def PM (l : List Bool) (k j : Nat) : Prop := k < j ∧ j < l.length ∧ l.getD j false = false ∧ bal (seg l (k + 1) j) 0 = true
theorem PM.first {l : List Bool} {k j a : Nat} (h : PM l k j) (h1 : k < a) (h2 : a < j) : ¬ (bal (seg l (k + 1) a) 0 = true ∧ l.getD a false = false) := by
  rintro ⟨g1, g2⟩
  obtain ⟨_, q2, _, q4⟩ := h
  rw [seg_split (a := k + 1) (k := a) (by omega) h2 (by omega), g2, bal_stop g1] at q4
  cases q4
/-- The open ones, the last first, up to a place. -/
def SI (l : List Bool) : List Nat → Nat → Prop
  | [], i => bal (seg l 0 i) 0 = true
  | k :: s, i => k < i ∧ l.getD k false = true ∧ bal (seg l (k + 1) i) 0 = true ∧ SI l s k
theorem SI.pop {l : List Bool} {k i : Nat} {s : List Nat} (h : SI l (k :: s) i) (hi : i < l.length) (hl : l.getD i false = false) : SI l s (i + 1) := by
  obtain ⟨h1, h2, h3, h4⟩ := h
  cases s with
  | nil =>
    have h4' : bal (seg l 0 k) 0 = true := h4
    show bal (seg l 0 (i + 1)) 0 = true
    rw [seg_succ (by omega) hi, seg_split (k := k) (by omega) h1 (by omega), h2, hl]
    exact bal_wrap h4' h3
  | cons k' s =>
    obtain ⟨g1, g2, g3, g4⟩ := h4
    refine ⟨by omega, g2, ?_, g4⟩
    rw [seg_succ (by omega) hi, seg_split (k := k) (by omega) h1 (by omega), h2, hl]
    exact bal_wrap g3 h3
theorem SI.lt {l : List Bool} : ∀ {s : List Nat} {i : Nat}, SI l s i → ∀ k, k ∈ s → k < i
  | [], _, _, _, h => by cases h
  | k :: s, i, ⟨h1, _, _, h4⟩, x, hx => by
    rcases List.mem_cons.1 hx with rfl | hx
    · exact h1
    · have := SI.lt h4 x hx; omega
/-- What the places say that are done. -/
def DN (l : List Bool) (s : List Nat) (i : Nat) (out : List Int) : Prop :=
  ∀ k, k < i → l.getD k false = true → ¬ k ∈ s → ∃ j : Nat, j < i ∧ PM l k j ∧ out.getD k 0 = j ∧ out.getD j 0 = k
theorem getD_set' {l : List Int} {i j : Nat} {x : Int} (hi : i < l.length) : (l.set i x).getD j 0 = if j = i then x else l.getD j 0 := by
  by_cases e : j = i
  · subst e; rw [if_pos rfl]; simp [List.getD, hi]
  · rw [if_neg e]; simp [List.getD, List.getElem?_set, Ne.symm e]
theorem DN.push {l : List Bool} {s : List Nat} {i : Nat} {out : List Int} (h : DN l s i out) : DN l (i :: s) (i + 1) out := fun k hk ho hn => by
  have hne : k ≠ i := fun e => hn (e ▸ List.mem_cons_self ..)
  obtain ⟨j, a, b⟩ := h k (by omega) ho (fun hs => hn (List.mem_cons_of_mem _ hs))
  exact ⟨j, by omega, b⟩
theorem DN.pop {l : List Bool} {k i : Nat} {s : List Nat} {out : List Int} (hs : SI l (k :: s) i) (hi : i < l.length) (hl : l.getD i false = false) (hlen : out.length = l.length) (h : DN l (k :: s) i out) : DN l s (i + 1) ((out.set i (k : Int)).set k (i : Int)) := fun x hx ho hn => by
  have hki := hs.1
  have hxi : x ≠ i := fun e => by rw [e, hl] at ho; cases ho
  by_cases e : x = k
  · subst e
    refine ⟨i, by omega, ⟨hki, hi, hl, hs.2.2.1⟩, ?_, ?_⟩
    · rw [getD_set' (by simp; omega), if_pos rfl]
    · rw [getD_set' (by simp; omega), if_neg (by omega), getD_set' (by omega), if_pos rfl]
  · obtain ⟨j, a, b, c, d⟩ := h x (by omega) ho (fun hm => by
      rcases List.mem_cons.1 hm with h | h
      · exact e h
      · exact hn h)
    have hjk : j ≠ k := fun e' => by rw [e'] at b; have := b.2.2.1; rw [hs.2.1] at this; cases this
    refine ⟨j, by omega, b, ?_, ?_⟩
    · rw [getD_set' (by simp; omega), if_neg e, getD_set' (by omega), if_neg hxi, c]
    · rw [getD_set' (by simp; omega), if_neg hjk, getD_set' (by omega), if_neg (by omega), d]
theorem DN.zero {l : List Bool} {out : List Int} : DN l [] 0 out := fun k hk => by omega
def stD (s : List Nat) : List (List D) := s.reverse.map fun (k : Nat) => [.v (.int .i64 (k : Int))]
set_option maxRecDepth 10000 in
set_option maxHeartbeats 4000000 in
theorem pairs_spec (l : List Bool) (hl : l.length ≤ 60) (hb : bal l 0 = true) : Dm.Spec Try.prog 9 [.sl 1 (bls l)] (fun d => ∃ out : List Int, d = .tu [.sl 1 (i64s out), iv .i64 0] ∧ out.length = l.length ∧ ∀ k, k < l.length → l.getD k false = true → ∃ j : Nat, PM l k j ∧ out.getD k 0 = j ∧ out.getD j 0 = k) := by
  refine spec_of_vc mixed Try.func9 c9 (by rw [show Try.f9.ntmps = _ from Try.ntmps9]; simp) ?_
  unfold m9 r9
  repeat' first | (refine Br.dec (fun h => ?_) (fun h => ?_) <;> try (exfalso; omega)) | (refine Br.eqi (fun h => ?_) (fun h => ?_) <;> try (exfalso; omega)) | (simp (disch := (first | omega | (simp only [List.length_cons, List.length_nil, List.length_append, List.length_map, List.length_replicate, List.length_take, List.length_drop, List.length_set, tab_length, tabD_len, i64s_len, bls_len, u8s_len, tbl_len, rows_len]; first | done | omega))) only [↓va0, ↓va1, ↓va2, vb0, vb1, vb2, vb3, vb4, vb5, vb6, vb7, vb8, vb9, vz0, vz1, vy0, vx0, ↓reduceIte, Nat.reduceBEq, Nat.reduceEqDiff, Nat.reduceLT, Nat.reduceLeDiff, Nat.reduceAdd, Nat.reduceMul, Nat.reduceSub, reduceCtorEq, Int.reduceToNat]) | (refine Br.mk (fun h => ?_) (fun h => ?_)) | (refine BrN.mk (fun h => ?_) ?_)
  refine CallVC.eq (balanced_spec l hl) ?_
  rw [hb]
  repeat' first | (refine Br.dec (fun h => ?_) (fun h => ?_) <;> try (exfalso; omega)) | (refine Br.eqi (fun h => ?_) (fun h => ?_) <;> try (exfalso; omega)) | (simp (disch := (first | omega | (simp only [List.length_cons, List.length_nil, List.length_append, List.length_map, List.length_replicate, List.length_take, List.length_drop, List.length_set, tab_length, tabD_len, i64s_len, bls_len, u8s_len, tbl_len, rows_len]; first | done | omega))) only [↓va0, ↓va1, ↓va2, vb0, vb1, vb2, vb3, vb4, vb5, vb6, vb7, vb8, vb9, vz0, vz1, vy0, vx0, ↓reduceIte, Nat.reduceBEq, Nat.reduceEqDiff, Nat.reduceLT, Nat.reduceLeDiff, Nat.reduceAdd, Nat.reduceMul, Nat.reduceSub, reduceCtorEq, Int.reduceToNat]) | (refine Br.mk (fun h => ?_) (fun h => ?_)) | (refine BrN.mk (fun h => ?_) ?_)
  refine LoopVC.mk (X := Nat × List Nat × List Int × List (List D)) (fun x => [(4, .ref 1 1 0 l.length), (5, .ref 2 1 0 x.2.1.length), (20, iv .i64 x.1)]) (fun x => [(1, ⟨1, i64s x.2.2.1, true, false, .arr⟩), (2, ⟨1, x.2.2.2, true, false, .arr⟩)]) (fun x => l.length - x.1) (fun x => x.1 ≤ l.length ∧ SI l x.2.1 x.1 ∧ DN l x.2.1 x.1 x.2.2.1 ∧ x.2.2.1.length = l.length ∧ bal (l.drop x.1) x.2.1.length = true ∧ x.2.1.length ≤ x.1 ∧ x.2.1.length ≤ x.2.2.2.length ∧ x.2.2.2.take x.2.1.length = stD x.2.1) (0, [], tab l.length fun _ => 0, []) ⟨by simp, by show bal (seg l 0 0) 0 = true; rw [seg_self]; rfl, DN.zero, by simp [tab], by simpa using hb, by simp, by simp, by simp [stD]⟩ ?_ ?_
  · (simp (disch := (first | omega | (simp only [List.length_cons, List.length_nil, List.length_append, List.length_map, List.length_replicate, List.length_take, List.length_drop, List.length_set, tab_length, tabD_len, i64s_len, bls_len, u8s_len, tbl_len, rows_len]; first | done | omega))) only [Fits_u, Fits_m, Fits_nil, List.length_append, ↓va0, ↓va1, ↓va2, vb0, vb1, vb2, vb3, vb4, vb5, vb6, vb7, vb8, vb9, vz0, vz1, vy0, vx0, ↓reduceIte, Nat.reduceBEq, Nat.reduceEqDiff, Nat.reduceLT, Nat.reduceLeDiff, Nat.reduceAdd, Nat.reduceMul, Nat.reduceSub, reduceCtorEq, Int.reduceToNat] <;> (repeat' first | rfl | apply And.intro))
    all_goals trace_state
  · rintro ⟨i, st, out, E⟩ ⟨h1, h2, h3, h4, h5, h6, h8, h7⟩
    simp only at h1 h2 h3 h4 h5 h6 h7 h8
    by_cases hi : i < l.length
    · rw [bal_step hi] at h5
      cases hc : l.getD i false
      · rw [hc] at h5
        simp only [Bool.false_eq_true, if_false] at h5
        cases st with
        | nil => simp at h5
        | cons k s =>
          have hk := h2.1
          have hEk : E.getD s.length [] = [.v (.int .i64 k)] := by
            have := congrArg (fun x : List (List D) => x.getD s.length []) h7
            simpa [List.getD, stD, List.getElem?_take] using this
          simp only [List.length_cons] at h5 h6 h7 h8 ⊢
          repeat' first | (refine Br.dec (fun h => ?_) (fun h => ?_) <;> try (exfalso; omega)) | (refine Br.eqi (fun h => ?_) (fun h => ?_) <;> try (exfalso; omega)) | (simp (disch := (first | omega | (simp only [List.length_cons, List.length_nil, List.length_append, List.length_map, List.length_replicate, List.length_take, List.length_drop, List.length_set, tab_length, tabD_len, i64s_len, bls_len, u8s_len, tbl_len, rows_len]; first | done | omega))) only [↓va0, ↓va1, ↓va2, vb0, vb1, vb2, vb3, vb4, vb5, vb6, vb7, vb8, vb9, vz0, vz1, vy0, vx0, ↓reduceIte, Nat.reduceBEq, Nat.reduceEqDiff, Nat.reduceLT, Nat.reduceLeDiff, Nat.reduceAdd, Nat.reduceMul, Nat.reduceSub, reduceCtorEq, Int.reduceToNat]) | (refine Br.mk (fun h => ?_) (fun h => ?_)) | (refine BrN.mk (fun h => ?_) ?_)
          · exact absurd (show l.getD i false = true by assumption) (by rw [hc]; simp)
          · rw [show ((s.length : Int) + 1 - 1).toNat = s.length by omega, hEk]
            have h5' : bal (List.drop (i + 1) l) s.length = true := by
              rw [if_neg (by omega), show ((s.length + 1 : Nat) : Int) - 1 = (s.length : Int) by omega] at h5
              exact h5
            repeat' first | (refine Br.dec (fun h => ?_) (fun h => ?_) <;> try (exfalso; omega)) | (refine Br.eqi (fun h => ?_) (fun h => ?_) <;> try (exfalso; omega)) | (simp (disch := (first | omega | (simp only [List.length_cons, List.length_nil, List.length_append, List.length_map, List.length_replicate, List.length_take, List.length_drop, List.length_set, tab_length, tabD_len, i64s_len, bls_len, u8s_len, tbl_len, rows_len]; first | done | omega))) only [↓va0, ↓va1, ↓va2, vb0, vb1, vb2, vb3, vb4, vb5, vb6, vb7, vb8, vb9, vz0, vz1, vy0, vx0, ↓reduceIte, Nat.reduceBEq, Nat.reduceEqDiff, Nat.reduceLT, Nat.reduceLeDiff, Nat.reduceAdd, Nat.reduceMul, Nat.reduceSub, reduceCtorEq, Int.reduceToNat]) | (refine Br.mk (fun h => ?_) (fun h => ?_)) | (refine BrN.mk (fun h => ?_) ?_)
            refine loopK.mk (i + 1, s, (out.set i (k : Int)).set k (i : Int), E) (by simp (disch := (first | omega | (simp only [List.length_cons, List.length_nil, List.length_append, List.length_map, List.length_replicate, List.length_take, List.length_drop, List.length_set, tab_length, tabD_len, i64s_len, bls_len, u8s_len, tbl_len, rows_len]; first | done | omega))) only [↓va0, ↓va1, ↓va2, vb0, vb1, vb2, vb3, vb4, vb5, vb6, vb7, vb8, vb9, vz0, vz1, vy0, vx0, ↓reduceIte, Nat.reduceBEq, Nat.reduceEqDiff, Nat.reduceLT, Nat.reduceLeDiff, Nat.reduceAdd, Nat.reduceMul, Nat.reduceSub, reduceCtorEq, Int.reduceToNat]) ⟨by simp only; omega, h2.pop hi hc, h3.pop h2 hi hc h4, by simp [h4], h5', by simp only; omega, by simp only; omega, ?_⟩ (by simp only; omega) ?_
            · have := congrArg (List.take s.length) h7
              rw [List.take_take, Nat.min_eq_left (by omega)] at this
              rw [this]
              simp [stD]
            · (simp (disch := (first | omega | (simp only [List.length_cons, List.length_nil, List.length_append, List.length_map, List.length_replicate, List.length_take, List.length_drop, List.length_set, tab_length, tabD_len, i64s_len, bls_len, u8s_len, tbl_len, rows_len]; first | done | omega))) only [Fits_u, Fits_m, Fits_nil, List.length_append, ↓va0, ↓va1, ↓va2, vb0, vb1, vb2, vb3, vb4, vb5, vb6, vb7, vb8, vb9, vz0, vz1, vy0, vx0, ↓reduceIte, Nat.reduceBEq, Nat.reduceEqDiff, Nat.reduceLT, Nat.reduceLeDiff, Nat.reduceAdd, Nat.reduceMul, Nat.reduceSub, reduceCtorEq, Int.reduceToNat] <;> (repeat' first | rfl | apply And.intro))
              rw [show ((s.length : Int) + 1 - 1).toNat - 0 = s.length by omega]
      · rw [hc] at h5
        simp only [if_true] at h5
        rw [if_neg (by omega)] at h5
        repeat' first | (refine Br.dec (fun h => ?_) (fun h => ?_) <;> try (exfalso; omega)) | (refine Br.eqi (fun h => ?_) (fun h => ?_) <;> try (exfalso; omega)) | (simp (disch := (first | omega | (simp only [List.length_cons, List.length_nil, List.length_append, List.length_map, List.length_replicate, List.length_take, List.length_drop, List.length_set, tab_length, tabD_len, i64s_len, bls_len, u8s_len, tbl_len, rows_len]; first | done | omega))) only [↓va0, ↓va1, ↓va2, vb0, vb1, vb2, vb3, vb4, vb5, vb6, vb7, vb8, vb9, vz0, vz1, vy0, vx0, ↓reduceIte, Nat.reduceBEq, Nat.reduceEqDiff, Nat.reduceLT, Nat.reduceLeDiff, Nat.reduceAdd, Nat.reduceMul, Nat.reduceSub, reduceCtorEq, Int.reduceToNat]) | (refine Br.mk (fun h => ?_) (fun h => ?_)) | (refine BrN.mk (fun h => ?_) ?_)
        · refine loopK.mk (i + 1, i :: st, out, List.take st.length E ++ [[.v (.int .i64 (i : Int))]]) (by simp (disch := (first | omega | (simp only [List.length_cons, List.length_nil, List.length_append, List.length_map, List.length_replicate, List.length_take, List.length_drop, List.length_set, tab_length, tabD_len, i64s_len, bls_len, u8s_len, tbl_len, rows_len]; first | done | omega))) only [↓va0, ↓va1, ↓va2, vb0, vb1, vb2, vb3, vb4, vb5, vb6, vb7, vb8, vb9, vz0, vz1, vy0, vx0, ↓reduceIte, Nat.reduceBEq, Nat.reduceEqDiff, Nat.reduceLT, Nat.reduceLeDiff, Nat.reduceAdd, Nat.reduceMul, Nat.reduceSub, reduceCtorEq, Int.reduceToNat]) ⟨by simp only; omega, ⟨by omega, hc, by rw [seg_self]; rfl, h2⟩, h3.push, h4, by simpa using h5, by simp only [List.length_cons]; omega, by simp; omega, ?_⟩ (by simp only; omega) ?_
          · simp only [List.length_cons]
            rw [List.take_of_length_le (by simp; omega), h7]
            simp [stD]
          · (simp (disch := (first | omega | (simp only [List.length_cons, List.length_nil, List.length_append, List.length_map, List.length_replicate, List.length_take, List.length_drop, List.length_set, tab_length, tabD_len, i64s_len, bls_len, u8s_len, tbl_len, rows_len]; first | done | omega))) only [Fits_u, Fits_m, Fits_nil, List.length_append, ↓va0, ↓va1, ↓va2, vb0, vb1, vb2, vb3, vb4, vb5, vb6, vb7, vb8, vb9, vz0, vz1, vy0, vx0, ↓reduceIte, Nat.reduceBEq, Nat.reduceEqDiff, Nat.reduceLT, Nat.reduceLeDiff, Nat.reduceAdd, Nat.reduceMul, Nat.reduceSub, reduceCtorEq, Int.reduceToNat] <;> (repeat' first | rfl | apply And.intro))
            all_goals trace_state
        · exact absurd (show l.getD i false = false by assumption) (by rw [hc]; simp)
    · have hst : st = [] := by
        rw [show l.drop i = [] from List.drop_eq_nil_of_le (by omega), bal, decide_eq_true_eq] at h5
        exact List.eq_nil_of_length_eq_zero (by omega)
      subst hst
      repeat' first | (refine Br.dec (fun h => ?_) (fun h => ?_) <;> try (exfalso; omega)) | (refine Br.eqi (fun h => ?_) (fun h => ?_) <;> try (exfalso; omega)) | (simp (disch := (first | omega | (simp only [List.length_cons, List.length_nil, List.length_append, List.length_map, List.length_replicate, List.length_take, List.length_drop, List.length_set, tab_length, tabD_len, i64s_len, bls_len, u8s_len, tbl_len, rows_len]; first | done | omega))) only [↓va0, ↓va1, ↓va2, vb0, vb1, vb2, vb3, vb4, vb5, vb6, vb7, vb8, vb9, vz0, vz1, vy0, vx0, ↓reduceIte, Nat.reduceBEq, Nat.reduceEqDiff, Nat.reduceLT, Nat.reduceLeDiff, Nat.reduceAdd, Nat.reduceMul, Nat.reduceSub, reduceCtorEq, Int.reduceToNat]) | (refine Br.mk (fun h => ?_) (fun h => ?_)) | (refine BrN.mk (fun h => ?_) ?_)
      exact fin_mk ⟨out, rfl, h4, fun k hk ho => by
        obtain ⟨j, _, b⟩ := h3 k (by omega) ho (by simp)
        exact ⟨j, b⟩⟩
set_option maxRecDepth 10000 in
set_option maxHeartbeats 4000000 in
theorem partner_spec (l : List Bool) (hl : l.length ≤ 60) (k j : Nat) (h : PM l k j) : Dm.Spec Try.prog 11 [.sl 1 (bls l), iv .i64 k] (· = iv .i64 j) := by
  refine spec_of_vc mixed Try.func11 c11 (by rw [show Try.f11.ntmps = _ from Try.ntmps11]; simp) ?_
  unfold m11 r11
  have hj := h.2.1
  have hk := h.1
  repeat' first | (refine Br.dec (fun h => ?_) (fun h => ?_) <;> try (exfalso; omega)) | (refine Br.eqi (fun h => ?_) (fun h => ?_) <;> try (exfalso; omega)) | (simp (disch := (first | omega | (simp only [List.length_cons, List.length_nil, List.length_append, List.length_map, List.length_replicate, List.length_take, List.length_drop, List.length_set, tab_length, tabD_len, i64s_len, bls_len, u8s_len, tbl_len, rows_len]; first | done | omega))) only [↓va0, ↓va1, ↓va2, vb0, vb1, vb2, vb3, vb4, vb5, vb6, vb7, vb8, vb9, vz0, vz1, vy0, vx0, ↓reduceIte, Nat.reduceBEq, Nat.reduceEqDiff, Nat.reduceLT, Nat.reduceLeDiff, Nat.reduceAdd, Nat.reduceMul, Nat.reduceSub, reduceCtorEq, Int.reduceToNat]) | (refine Br.mk (fun h => ?_) (fun h => ?_)) | (refine BrN.mk (fun h => ?_) ?_)
  refine LoopVC.mk (X := Nat) (fun a => [(5, iv .i64 a)]) (fun _ => []) (fun a => j - a) (fun a => k < a ∧ a ≤ j) (k + 1) ⟨by omega, by omega⟩ ?_ ?_
  · (simp (disch := (first | omega | (simp only [List.length_cons, List.length_nil, List.length_append, List.length_map, List.length_replicate, List.length_take, List.length_drop, List.length_set, tab_length, tabD_len, i64s_len, bls_len, u8s_len, tbl_len, rows_len]; first | done | omega))) only [Fits_u, Fits_m, Fits_nil, List.length_append, ↓va0, ↓va1, ↓va2, vb0, vb1, vb2, vb3, vb4, vb5, vb6, vb7, vb8, vb9, vz0, vz1, vy0, vx0, ↓reduceIte, Nat.reduceBEq, Nat.reduceEqDiff, Nat.reduceLT, Nat.reduceLeDiff, Nat.reduceAdd, Nat.reduceMul, Nat.reduceSub, reduceCtorEq, Int.reduceToNat] <;> (repeat' first | rfl | apply And.intro))
  · rintro a ⟨h1, h2⟩
    repeat' first | (refine Br.dec (fun h => ?_) (fun h => ?_) <;> try (exfalso; omega)) | (refine Br.eqi (fun h => ?_) (fun h => ?_) <;> try (exfalso; omega)) | (simp (disch := (first | omega | (simp only [List.length_cons, List.length_nil, List.length_append, List.length_map, List.length_replicate, List.length_take, List.length_drop, List.length_set, tab_length, tabD_len, i64s_len, bls_len, u8s_len, tbl_len, rows_len]; first | done | omega))) only [↓va0, ↓va1, ↓va2, vb0, vb1, vb2, vb3, vb4, vb5, vb6, vb7, vb8, vb9, vz0, vz1, vy0, vx0, ↓reduceIte, Nat.reduceBEq, Nat.reduceEqDiff, Nat.reduceLT, Nat.reduceLeDiff, Nat.reduceAdd, Nat.reduceMul, Nat.reduceSub, reduceCtorEq, Int.reduceToNat]) | (refine Br.mk (fun h => ?_) (fun h => ?_)) | (refine BrN.mk (fun h => ?_) ?_)
    refine CallVC.eq (closed_spec (List.drop (k + 1) (List.take a l)) (by rw [List.length_drop, List.length_take]; omega)) ?_
    have h0 := h.2.2
    have hf : a < j → ¬ (bal (List.drop (k + 1) (List.take a l)) 0 = true ∧ l.getD a false = false) := fun g => h.first h1 g
    have hje : a = j → bal (List.drop (k + 1) (List.take a l)) 0 = true ∧ l.getD a false = false := fun e => by subst e; exact ⟨h0.2, h0.1⟩
    repeat' first | (refine Br.dec (fun h => ?_) (fun h => ?_) <;> try (exfalso; omega)) | (refine Br.eqi (fun h => ?_) (fun h => ?_) <;> try (exfalso; omega)) | (simp (disch := (first | omega | (simp only [List.length_cons, List.length_nil, List.length_append, List.length_map, List.length_replicate, List.length_take, List.length_drop, List.length_set, tab_length, tabD_len, i64s_len, bls_len, u8s_len, tbl_len, rows_len]; first | done | omega))) only [↓va0, ↓va1, ↓va2, vb0, vb1, vb2, vb3, vb4, vb5, vb6, vb7, vb8, vb9, vz0, vz1, vy0, vx0, ↓reduceIte, Nat.reduceBEq, Nat.reduceEqDiff, Nat.reduceLT, Nat.reduceLeDiff, Nat.reduceAdd, Nat.reduceMul, Nat.reduceSub, reduceCtorEq, Int.reduceToNat]) | (refine Br.mk (fun h => ?_) (fun h => ?_)) | (refine BrN.mk (fun h => ?_) ?_)
    · have haj : a < j := by
        by_cases e : a = j
        · have := (hje e).2; simp_all
        · omega
      exact loopK.mk (a + 1) (by simp (disch := (first | omega | (simp only [List.length_cons, List.length_nil, List.length_append, List.length_map, List.length_replicate, List.length_take, List.length_drop, List.length_set, tab_length, tabD_len, i64s_len, bls_len, u8s_len, tbl_len, rows_len]; first | done | omega))) only [↓va0, ↓va1, ↓va2, vb0, vb1, vb2, vb3, vb4, vb5, vb6, vb7, vb8, vb9, vz0, vz1, vy0, vx0, ↓reduceIte, Nat.reduceBEq, Nat.reduceEqDiff, Nat.reduceLT, Nat.reduceLeDiff, Nat.reduceAdd, Nat.reduceMul, Nat.reduceSub, reduceCtorEq, Int.reduceToNat]) ⟨by omega, by omega⟩ (by omega) (by (simp (disch := (first | omega | (simp only [List.length_cons, List.length_nil, List.length_append, List.length_map, List.length_replicate, List.length_take, List.length_drop, List.length_set, tab_length, tabD_len, i64s_len, bls_len, u8s_len, tbl_len, rows_len]; first | done | omega))) only [Fits_u, Fits_m, Fits_nil, List.length_append, ↓va0, ↓va1, ↓va2, vb0, vb1, vb2, vb3, vb4, vb5, vb6, vb7, vb8, vb9, vz0, vz1, vy0, vx0, ↓reduceIte, Nat.reduceBEq, Nat.reduceEqDiff, Nat.reduceLT, Nat.reduceLeDiff, Nat.reduceAdd, Nat.reduceMul, Nat.reduceSub, reduceCtorEq, Int.reduceToNat] <;> (repeat' first | rfl | apply And.intro)))
    · have : a = j := by
        by_cases e : a < j
        · exact absurd ⟨by assumption, by assumption⟩ (hf e)
        · omega
      exact fin_mk (by rw [this])
    · have haj : a < j := by
        by_cases e : a = j
        · have := (hje e).1; simp_all
        · omega
      exact loopK.mk (a + 1) (by simp (disch := (first | omega | (simp only [List.length_cons, List.length_nil, List.length_append, List.length_map, List.length_replicate, List.length_take, List.length_drop, List.length_set, tab_length, tabD_len, i64s_len, bls_len, u8s_len, tbl_len, rows_len]; first | done | omega))) only [↓va0, ↓va1, ↓va2, vb0, vb1, vb2, vb3, vb4, vb5, vb6, vb7, vb8, vb9, vz0, vz1, vy0, vx0, ↓reduceIte, Nat.reduceBEq, Nat.reduceEqDiff, Nat.reduceLT, Nat.reduceLeDiff, Nat.reduceAdd, Nat.reduceMul, Nat.reduceSub, reduceCtorEq, Int.reduceToNat]) ⟨by omega, by omega⟩ (by omega) (by (simp (disch := (first | omega | (simp only [List.length_cons, List.length_nil, List.length_append, List.length_map, List.length_replicate, List.length_take, List.length_drop, List.length_set, tab_length, tabD_len, i64s_len, bls_len, u8s_len, tbl_len, rows_len]; first | done | omega))) only [Fits_u, Fits_m, Fits_nil, List.length_append, ↓va0, ↓va1, ↓va2, vb0, vb1, vb2, vb3, vb4, vb5, vb6, vb7, vb8, vb9, vz0, vz1, vy0, vx0, ↓reduceIte, Nat.reduceBEq, Nat.reduceEqDiff, Nat.reduceLT, Nat.reduceLeDiff, Nat.reduceAdd, Nat.reduceMul, Nat.reduceSub, reduceCtorEq, Int.reduceToNat] <;> (repeat' first | rfl | apply And.intro)))
set_option maxRecDepth 10000 in
set_option maxHeartbeats 4000000 in
theorem pairs_big (l : List Bool) (hl : 60 < l.length) (hm : l.length ≤ 9223372036854775807) : Dm.Spec Try.prog 9 [.sl 1 (bls l)] (· = .tu [.sl 1 [], iv .i64 1]) := by
  refine spec_of_vc mixed Try.func9 c9 (by rw [show Try.f9.ntmps = _ from Try.ntmps9]; simp) ?_
  unfold m9 r9
  repeat' first | (refine Br.dec (fun h => ?_) (fun h => ?_) <;> try (exfalso; omega)) | (refine Br.eqi (fun h => ?_) (fun h => ?_) <;> try (exfalso; omega)) | (simp (disch := (first | omega | (simp only [List.length_cons, List.length_nil, List.length_append, List.length_map, List.length_replicate, List.length_take, List.length_drop, List.length_set, tab_length, tabD_len, i64s_len, bls_len, u8s_len, tbl_len, rows_len]; first | done | omega))) only [↓va0, ↓va1, ↓va2, vb0, vb1, vb2, vb3, vb4, vb5, vb6, vb7, vb8, vb9, vz0, vz1, vy0, vx0, ↓reduceIte, Nat.reduceBEq, Nat.reduceEqDiff, Nat.reduceLT, Nat.reduceLeDiff, Nat.reduceAdd, Nat.reduceMul, Nat.reduceSub, reduceCtorEq, Int.reduceToNat]) | (refine Br.mk (fun h => ?_) (fun h => ?_)) | (refine BrN.mk (fun h => ?_) ?_)
  exact fin_mk rfl
set_option maxRecDepth 10000 in
set_option maxHeartbeats 4000000 in
theorem pairs_err (l : List Bool) (hl : l.length ≤ 60) (hb : bal l 0 = false) : Dm.Spec Try.prog 9 [.sl 1 (bls l)] (· = .tu [.sl 1 [], iv .i64 3]) := by
  refine spec_of_vc mixed Try.func9 c9 (by rw [show Try.f9.ntmps = _ from Try.ntmps9]; simp) ?_
  unfold m9 r9
  repeat' first | (refine Br.dec (fun h => ?_) (fun h => ?_) <;> try (exfalso; omega)) | (refine Br.eqi (fun h => ?_) (fun h => ?_) <;> try (exfalso; omega)) | (simp (disch := (first | omega | (simp only [List.length_cons, List.length_nil, List.length_append, List.length_map, List.length_replicate, List.length_take, List.length_drop, List.length_set, tab_length, tabD_len, i64s_len, bls_len, u8s_len, tbl_len, rows_len]; first | done | omega))) only [↓va0, ↓va1, ↓va2, vb0, vb1, vb2, vb3, vb4, vb5, vb6, vb7, vb8, vb9, vz0, vz1, vy0, vx0, ↓reduceIte, Nat.reduceBEq, Nat.reduceEqDiff, Nat.reduceLT, Nat.reduceLeDiff, Nat.reduceAdd, Nat.reduceMul, Nat.reduceSub, reduceCtorEq, Int.reduceToNat]) | (refine Br.mk (fun h => ?_) (fun h => ?_)) | (refine BrN.mk (fun h => ?_) ?_)
  refine CallVC.eq (balanced_spec l hl) ?_
  rw [hb]
  repeat' first | (refine Br.dec (fun h => ?_) (fun h => ?_) <;> try (exfalso; omega)) | (refine Br.eqi (fun h => ?_) (fun h => ?_) <;> try (exfalso; omega)) | (simp (disch := (first | omega | (simp only [List.length_cons, List.length_nil, List.length_append, List.length_map, List.length_replicate, List.length_take, List.length_drop, List.length_set, tab_length, tabD_len, i64s_len, bls_len, u8s_len, tbl_len, rows_len]; first | done | omega))) only [↓va0, ↓va1, ↓va2, vb0, vb1, vb2, vb3, vb4, vb5, vb6, vb7, vb8, vb9, vz0, vz1, vy0, vx0, ↓reduceIte, Nat.reduceBEq, Nat.reduceEqDiff, Nat.reduceLT, Nat.reduceLeDiff, Nat.reduceAdd, Nat.reduceMul, Nat.reduceSub, reduceCtorEq, Int.reduceToNat]) | (refine Br.mk (fun h => ?_) (fun h => ?_)) | (refine BrN.mk (fun h => ?_) ?_)
  exact fin_mk rfl
set_option maxRecDepth 10000 in
set_option maxHeartbeats 4000000 in
theorem bracketPairs_spec (l : List Bool) (h : okL (fun _ => True) l) : Dm.Spec Try.prog 3 [.sl 1 (bls l)] (· = .v (.bool true)) := by
  refine spec_of_vc mixed Try.func3 c3 (by rw [show Try.f3.ntmps = _ from Try.ntmps3]; simp) ?_
  unfold m3 r3
  have hm : l.length ≤ 9223372036854775807 := maxLen_le h.1
  by_cases hw : 60 < l.length
  · repeat' first | (refine Br.dec (fun h => ?_) (fun h => ?_) <;> try (exfalso; omega)) | (refine Br.eqi (fun h => ?_) (fun h => ?_) <;> try (exfalso; omega)) | (simp (disch := (first | omega | (simp only [List.length_cons, List.length_nil, List.length_append, List.length_map, List.length_replicate, List.length_take, List.length_drop, List.length_set, tab_length, tabD_len, i64s_len, bls_len, u8s_len, tbl_len, rows_len]; first | done | omega))) only [↓va0, ↓va1, ↓va2, vb0, vb1, vb2, vb3, vb4, vb5, vb6, vb7, vb8, vb9, vz0, vz1, vy0, vx0, ↓reduceIte, Nat.reduceBEq, Nat.reduceEqDiff, Nat.reduceLT, Nat.reduceLeDiff, Nat.reduceAdd, Nat.reduceMul, Nat.reduceSub, reduceCtorEq, Int.reduceToNat]) | (refine Br.mk (fun h => ?_) (fun h => ?_)) | (refine BrN.mk (fun h => ?_) ?_)
    refine CallVC.eq (pairs_big l hw hm) ?_
    repeat' first | (refine Br.dec (fun h => ?_) (fun h => ?_) <;> try (exfalso; omega)) | (refine Br.eqi (fun h => ?_) (fun h => ?_) <;> try (exfalso; omega)) | (simp (disch := (first | omega | (simp only [List.length_cons, List.length_nil, List.length_append, List.length_map, List.length_replicate, List.length_take, List.length_drop, List.length_set, tab_length, tabD_len, i64s_len, bls_len, u8s_len, tbl_len, rows_len]; first | done | omega))) only [↓va0, ↓va1, ↓va2, vb0, vb1, vb2, vb3, vb4, vb5, vb6, vb7, vb8, vb9, vz0, vz1, vy0, vx0, ↓reduceIte, Nat.reduceBEq, Nat.reduceEqDiff, Nat.reduceLT, Nat.reduceLeDiff, Nat.reduceAdd, Nat.reduceMul, Nat.reduceSub, reduceCtorEq, Int.reduceToNat]) | (refine Br.mk (fun h => ?_) (fun h => ?_)) | (refine BrN.mk (fun h => ?_) ?_)
    exact fin_mk rfl
  · cases hb : bal l 0
    · repeat' first | (refine Br.dec (fun h => ?_) (fun h => ?_) <;> try (exfalso; omega)) | (refine Br.eqi (fun h => ?_) (fun h => ?_) <;> try (exfalso; omega)) | (simp (disch := (first | omega | (simp only [List.length_cons, List.length_nil, List.length_append, List.length_map, List.length_replicate, List.length_take, List.length_drop, List.length_set, tab_length, tabD_len, i64s_len, bls_len, u8s_len, tbl_len, rows_len]; first | done | omega))) only [↓va0, ↓va1, ↓va2, vb0, vb1, vb2, vb3, vb4, vb5, vb6, vb7, vb8, vb9, vz0, vz1, vy0, vx0, ↓reduceIte, Nat.reduceBEq, Nat.reduceEqDiff, Nat.reduceLT, Nat.reduceLeDiff, Nat.reduceAdd, Nat.reduceMul, Nat.reduceSub, reduceCtorEq, Int.reduceToNat]) | (refine Br.mk (fun h => ?_) (fun h => ?_)) | (refine BrN.mk (fun h => ?_) ?_)
      refine CallVC.eq (pairs_err l (by omega) hb) ?_
      repeat' first | (refine Br.dec (fun h => ?_) (fun h => ?_) <;> try (exfalso; omega)) | (refine Br.eqi (fun h => ?_) (fun h => ?_) <;> try (exfalso; omega)) | (simp (disch := (first | omega | (simp only [List.length_cons, List.length_nil, List.length_append, List.length_map, List.length_replicate, List.length_take, List.length_drop, List.length_set, tab_length, tabD_len, i64s_len, bls_len, u8s_len, tbl_len, rows_len]; first | done | omega))) only [↓va0, ↓va1, ↓va2, vb0, vb1, vb2, vb3, vb4, vb5, vb6, vb7, vb8, vb9, vz0, vz1, vy0, vx0, ↓reduceIte, Nat.reduceBEq, Nat.reduceEqDiff, Nat.reduceLT, Nat.reduceLeDiff, Nat.reduceAdd, Nat.reduceMul, Nat.reduceSub, reduceCtorEq, Int.reduceToNat]) | (refine Br.mk (fun h => ?_) (fun h => ?_)) | (refine BrN.mk (fun h => ?_) ?_)
      refine CallVC.eq (closed_spec l (by omega)) ?_
      rw [hb]
      repeat' first | (refine Br.dec (fun h => ?_) (fun h => ?_) <;> try (exfalso; omega)) | (refine Br.eqi (fun h => ?_) (fun h => ?_) <;> try (exfalso; omega)) | (simp (disch := (first | omega | (simp only [List.length_cons, List.length_nil, List.length_append, List.length_map, List.length_replicate, List.length_take, List.length_drop, List.length_set, tab_length, tabD_len, i64s_len, bls_len, u8s_len, tbl_len, rows_len]; first | done | omega))) only [↓va0, ↓va1, ↓va2, vb0, vb1, vb2, vb3, vb4, vb5, vb6, vb7, vb8, vb9, vz0, vz1, vy0, vx0, ↓reduceIte, Nat.reduceBEq, Nat.reduceEqDiff, Nat.reduceLT, Nat.reduceLeDiff, Nat.reduceAdd, Nat.reduceMul, Nat.reduceSub, reduceCtorEq, Int.reduceToNat]) | (refine Br.mk (fun h => ?_) (fun h => ?_)) | (refine BrN.mk (fun h => ?_) ?_)
      exact fin_mk rfl
    · repeat' first | (refine Br.dec (fun h => ?_) (fun h => ?_) <;> try (exfalso; omega)) | (refine Br.eqi (fun h => ?_) (fun h => ?_) <;> try (exfalso; omega)) | (simp (disch := (first | omega | (simp only [List.length_cons, List.length_nil, List.length_append, List.length_map, List.length_replicate, List.length_take, List.length_drop, List.length_set, tab_length, tabD_len, i64s_len, bls_len, u8s_len, tbl_len, rows_len]; first | done | omega))) only [↓va0, ↓va1, ↓va2, vb0, vb1, vb2, vb3, vb4, vb5, vb6, vb7, vb8, vb9, vz0, vz1, vy0, vx0, ↓reduceIte, Nat.reduceBEq, Nat.reduceEqDiff, Nat.reduceLT, Nat.reduceLeDiff, Nat.reduceAdd, Nat.reduceMul, Nat.reduceSub, reduceCtorEq, Int.reduceToNat]) | (refine Br.mk (fun h => ?_) (fun h => ?_)) | (refine BrN.mk (fun h => ?_) ?_)
      refine CallVC.mk (pairs_spec l (by omega) hb) ?_
      rintro _ ⟨out, rfl, ho, hp⟩
      repeat' first | (refine Br.dec (fun h => ?_) (fun h => ?_) <;> try (exfalso; omega)) | (refine Br.eqi (fun h => ?_) (fun h => ?_) <;> try (exfalso; omega)) | (simp (disch := (first | omega | (simp only [List.length_cons, List.length_nil, List.length_append, List.length_map, List.length_replicate, List.length_take, List.length_drop, List.length_set, tab_length, tabD_len, i64s_len, bls_len, u8s_len, tbl_len, rows_len]; first | done | omega))) only [↓va0, ↓va1, ↓va2, vb0, vb1, vb2, vb3, vb4, vb5, vb6, vb7, vb8, vb9, vz0, vz1, vy0, vx0, ↓reduceIte, Nat.reduceBEq, Nat.reduceEqDiff, Nat.reduceLT, Nat.reduceLeDiff, Nat.reduceAdd, Nat.reduceMul, Nat.reduceSub, reduceCtorEq, Int.reduceToNat]) | (refine Br.mk (fun h => ?_) (fun h => ?_)) | (refine BrN.mk (fun h => ?_) ?_)
      refine CallVC.eq (closed_spec l (by omega)) ?_
      rw [hb]
      repeat' first | (refine Br.dec (fun h => ?_) (fun h => ?_) <;> try (exfalso; omega)) | (refine Br.eqi (fun h => ?_) (fun h => ?_) <;> try (exfalso; omega)) | (simp (disch := (first | omega | (simp only [List.length_cons, List.length_nil, List.length_append, List.length_map, List.length_replicate, List.length_take, List.length_drop, List.length_set, tab_length, tabD_len, i64s_len, bls_len, u8s_len, tbl_len, rows_len]; first | done | omega))) only [↓va0, ↓va1, ↓va2, vb0, vb1, vb2, vb3, vb4, vb5, vb6, vb7, vb8, vb9, vz0, vz1, vy0, vx0, ↓reduceIte, Nat.reduceBEq, Nat.reduceEqDiff, Nat.reduceLT, Nat.reduceLeDiff, Nat.reduceAdd, Nat.reduceMul, Nat.reduceSub, reduceCtorEq, Int.reduceToNat]) | (refine Br.mk (fun h => ?_) (fun h => ?_)) | (refine BrN.mk (fun h => ?_) ?_)
      refine LoopVC.mk (X := Nat) (fun i => [(40, iv .i64 i)]) (fun _ => []) (fun i => l.length - i) (fun i => i ≤ l.length) 0 (by omega) ?_ ?_
      · (simp (disch := (first | omega | (simp only [List.length_cons, List.length_nil, List.length_append, List.length_map, List.length_replicate, List.length_take, List.length_drop, List.length_set, tab_length, tabD_len, i64s_len, bls_len, u8s_len, tbl_len, rows_len]; first | done | omega))) only [Fits_u, Fits_m, Fits_nil, List.length_append, ↓va0, ↓va1, ↓va2, vb0, vb1, vb2, vb3, vb4, vb5, vb6, vb7, vb8, vb9, vz0, vz1, vy0, vx0, ↓reduceIte, Nat.reduceBEq, Nat.reduceEqDiff, Nat.reduceLT, Nat.reduceLeDiff, Nat.reduceAdd, Nat.reduceMul, Nat.reduceSub, reduceCtorEq, Int.reduceToNat] <;> (repeat' first | rfl | apply And.intro))
      · intro i hi
        repeat' first | (refine Br.dec (fun h => ?_) (fun h => ?_) <;> try (exfalso; omega)) | (refine Br.eqi (fun h => ?_) (fun h => ?_) <;> try (exfalso; omega)) | (simp (disch := (first | omega | (simp only [List.length_cons, List.length_nil, List.length_append, List.length_map, List.length_replicate, List.length_take, List.length_drop, List.length_set, tab_length, tabD_len, i64s_len, bls_len, u8s_len, tbl_len, rows_len]; first | done | omega))) only [↓va0, ↓va1, ↓va2, vb0, vb1, vb2, vb3, vb4, vb5, vb6, vb7, vb8, vb9, vz0, vz1, vy0, vx0, ↓reduceIte, Nat.reduceBEq, Nat.reduceEqDiff, Nat.reduceLT, Nat.reduceLeDiff, Nat.reduceAdd, Nat.reduceMul, Nat.reduceSub, reduceCtorEq, Int.reduceToNat]) | (refine Br.mk (fun h => ?_) (fun h => ?_)) | (refine BrN.mk (fun h => ?_) ?_)
        · obtain ⟨j, hj, e1, e2⟩ := hp i (by omega) (by assumption)
          have hjl := hj.2.1
          have e3 : out.getD (out.getD i 0).toNat 0 = i := by rw [e1, Int.toNat_natCast]; exact e2
          refine CallP.eq (partner_spec l (by omega) i j hj) (by simp) ?_
          repeat' first | (refine Br.dec (fun h => ?_) (fun h => ?_) <;> try (exfalso; omega)) | (refine Br.eqi (fun h => ?_) (fun h => ?_) <;> try (exfalso; omega)) | (simp (disch := (first | omega | (simp only [List.length_cons, List.length_nil, List.length_append, List.length_map, List.length_replicate, List.length_take, List.length_drop, List.length_set, tab_length, tabD_len, i64s_len, bls_len, u8s_len, tbl_len, rows_len]; first | done | omega))) only [↓va0, ↓va1, ↓va2, vb0, vb1, vb2, vb3, vb4, vb5, vb6, vb7, vb8, vb9, vz0, vz1, vy0, vx0, ↓reduceIte, Nat.reduceBEq, Nat.reduceEqDiff, Nat.reduceLT, Nat.reduceLeDiff, Nat.reduceAdd, Nat.reduceMul, Nat.reduceSub, reduceCtorEq, Int.reduceToNat]) | (refine Br.mk (fun h => ?_) (fun h => ?_)) | (refine BrN.mk (fun h => ?_) ?_)
          refine loopK.mk (i + 1) (by simp (disch := (first | omega | (simp only [List.length_cons, List.length_nil, List.length_append, List.length_map, List.length_replicate, List.length_take, List.length_drop, List.length_set, tab_length, tabD_len, i64s_len, bls_len, u8s_len, tbl_len, rows_len]; first | done | omega))) only [↓va0, ↓va1, ↓va2, vb0, vb1, vb2, vb3, vb4, vb5, vb6, vb7, vb8, vb9, vz0, vz1, vy0, vx0, ↓reduceIte, Nat.reduceBEq, Nat.reduceEqDiff, Nat.reduceLT, Nat.reduceLeDiff, Nat.reduceAdd, Nat.reduceMul, Nat.reduceSub, reduceCtorEq, Int.reduceToNat]) (by omega) (by omega) ?_
          (simp (disch := (first | omega | (simp only [List.length_cons, List.length_nil, List.length_append, List.length_map, List.length_replicate, List.length_take, List.length_drop, List.length_set, tab_length, tabD_len, i64s_len, bls_len, u8s_len, tbl_len, rows_len]; first | done | omega))) only [Fits_u, Fits_m, Fits_nil, List.length_append, ↓va0, ↓va1, ↓va2, vb0, vb1, vb2, vb3, vb4, vb5, vb6, vb7, vb8, vb9, vz0, vz1, vy0, vx0, ↓reduceIte, Nat.reduceBEq, Nat.reduceEqDiff, Nat.reduceLT, Nat.reduceLeDiff, Nat.reduceAdd, Nat.reduceMul, Nat.reduceSub, reduceCtorEq, Int.reduceToNat] <;> (repeat' first | rfl | apply And.intro))
        · refine loopK.mk (i + 1) (by simp (disch := (first | omega | (simp only [List.length_cons, List.length_nil, List.length_append, List.length_map, List.length_replicate, List.length_take, List.length_drop, List.length_set, tab_length, tabD_len, i64s_len, bls_len, u8s_len, tbl_len, rows_len]; first | done | omega))) only [↓va0, ↓va1, ↓va2, vb0, vb1, vb2, vb3, vb4, vb5, vb6, vb7, vb8, vb9, vz0, vz1, vy0, vx0, ↓reduceIte, Nat.reduceBEq, Nat.reduceEqDiff, Nat.reduceLT, Nat.reduceLeDiff, Nat.reduceAdd, Nat.reduceMul, Nat.reduceSub, reduceCtorEq, Int.reduceToNat]) (by omega) (by omega) ?_
          (simp (disch := (first | omega | (simp only [List.length_cons, List.length_nil, List.length_append, List.length_map, List.length_replicate, List.length_take, List.length_drop, List.length_set, tab_length, tabD_len, i64s_len, bls_len, u8s_len, tbl_len, rows_len]; first | done | omega))) only [Fits_u, Fits_m, Fits_nil, List.length_append, ↓va0, ↓va1, ↓va2, vb0, vb1, vb2, vb3, vb4, vb5, vb6, vb7, vb8, vb9, vz0, vz1, vy0, vx0, ↓reduceIte, Nat.reduceBEq, Nat.reduceEqDiff, Nat.reduceLT, Nat.reduceLeDiff, Nat.reduceAdd, Nat.reduceMul, Nat.reduceSub, reduceCtorEq, Int.reduceToNat] <;> (repeat' first | rfl | apply And.intro))
        · exact fin_mk rfl
end Go.Proofs.Ytllkafockafdcaa
