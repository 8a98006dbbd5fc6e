/-
  Machines: the pairs of states that some word tells apart, as the program finds them.
-/
import Derived.Test.YtbbpmodfbdibcaaMoore
import Derived.Test.YtbbpmodfbdibcaaMBoth
import Derived.Test.YtbbpmodfbdibcaaLend
namespace Go.Proofs.Ytbbpmodfbdibcaa
open Go.Dm
set_option linter.unusedSimpArgs false
set_option linter.unnecessarySimpa false
set_option linter.unusedVariables false
set_option linter.defProp false

def prD (p : Nat × Nat) : List D := [iv .i64 p.1, iv .i64 p.2, iv .i64 1]
theorem prD_eq {p : Nat × Nat} : prD p = [iv .i64 p.1, iv .i64 p.2, iv .i64 1] := (rfl)
def vap := And.intro @prD_eq @Int.add_sub_cancel
/-- A pair is settled. -/
def CL (m : Dm.Machine) (L : List (Nat × Nat)) (i k : Nat) : Prop := (i, k) ∈ L ∨ (bitF m i = bitF m k ∧ ∀ s, s < m.k.toNat → (nx m i s, nx m k s) ∉ L)
theorem key_in {L : List (Nat × Nat)} {i k r : Nat} (hr : r < (tbl prD L).length) (he : Agr (((tbl prD L).getD r []).take 2) [.v (.int .i64 i), .v (.int .i64 k)]) : (i, k) ∈ L := by
  rw [tbl_len] at hr
  rw [tbl_get hr, prD_eq] at he
  simp only [List.take_succ_cons, List.take_zero, Agr_v, D.v.injEq, Value.int.injEq, true_and, Int.natCast_inj] at he
  have hm := getD_mem' (l := L) (i := r) hr
  rw [← he.1, ← he.2.1]; exact hm
theorem key_out {L : List (Nat × Nat)} {i k : Nat} (hn : ∀ r, r < (tbl prD L).length → ((tbl prD L).getD r []).take 2 ≠ [.v (.int .i64 i), .v (.int .i64 k)]) : (i, k) ∉ L := fun h => by
  obtain ⟨r, hr, e⟩ := List.getElem_of_mem h
  have h1 := hn r (by rw [tbl_len]; exact hr)
  rw [tbl_get hr, show L.getD r default = (i, k) by simp [List.getD, hr, e], prD_eq] at h1
  exact h1 rfl
def cnt (N : Nat) (L : List (Nat × Nat)) : Nat := ((List.range (N * N)).filter fun p => decide ((p / N, p % N) ∉ L)).length
theorem cnt_lt {N : Nat} {L : List (Nat × Nat)} {i k : Nat} (hi : i < N) (hk : k < N) (h : (i, k) ∉ L) : cnt N (L ++ [(i, k)]) < cnt N L := by
  have h1 : i * N + k < N * N := by
    have := Nat.mul_le_mul_right N (show i + 1 ≤ N by omega)
    rw [Nat.succ_mul] at this; omega
  have e : (i * N + k) / N = i ∧ (i * N + k) % N = k := ⟨dv hk, md hk⟩
  refine Go.Dm.filter_lt (i := i * N + k) ?_ (List.mem_range.mpr h1) ?_ ?_
  · intro x hx
    simp only [decide_eq_true_eq, List.mem_append, not_or] at hx ⊢
    exact hx.1
  · simp only [decide_eq_true_eq]; rw [e.1, e.2]; exact h
  · simp only [decide_eq_false_iff_not, Decidable.not_not]; rw [e.1, e.2]; simp
structure AI (m : Dm.Machine) (N : Nat) (L : List (Nat × Nat)) : Prop where
  lt : ∀ p, p ∈ L → p.1 < N ∧ p.2 < N
  len : L.length + cnt N L ≤ N * N
  ds : ∀ p, p ∈ L → Dst m p.1 p.2
theorem AI.add {m : Dm.Machine} {N : Nat} {L : List (Nat × Nat)} (h : AI m N L) {i k : Nat} (hi : i < N) (hk : k < N) (hn : (i, k) ∉ L) (hd : Dst m i k) : AI m N (L ++ [(i, k)]) where
  lt := fun p hp => by
    rcases List.mem_append.mp hp with h1 | h1
    · exact h.lt p h1
    · rw [List.mem_singleton.mp h1]; exact ⟨hi, hk⟩
  len := by
    have := cnt_lt hi hk hn
    have := h.len
    rw [List.length_append, List.length_singleton]; omega
  ds := fun p hp => by
    rcases List.mem_append.mp hp with h1 | h1
    · exact h.ds p h1
    · rw [List.mem_singleton.mp h1]; exact hd
theorem AI.le {m : Dm.Machine} {N : Nat} {L : List (Nat × Nat)} (h : AI m N L) (hN : N ≤ 7) : L.length ≤ 49 := by
  have := h.len
  have := Nat.mul_le_mul hN hN
  omega
def isN (m : Dm.Machine) (L : List (Nat × Nat)) (i k s : Nat) : Bool := (bitF m i != bitF m k) || (List.range s).any fun s' => decide ((nx m i s', nx m k s') ∈ L)
theorem isN_succ {m : Dm.Machine} {L : List (Nat × Nat)} {i k s : Nat} : isN m L i k (s + 1) = (isN m L i k s || decide ((nx m i s, nx m k s) ∈ L)) := by
  simp [isN, List.range_succ, Bool.or_assoc]
theorem isN_ds {m : Dm.Machine} {N : Nat} {L : List (Nat × Nat)} (h : AI m N L) {i k : Nat} (hi : isN m L i k m.k.toNat = true) : Dst m i k := by
  unfold isN at hi
  rcases (Bool.or_eq_true ..).mp hi with h1 | h1
  · exact dst_bit (by simpa using h1)
  · obtain ⟨s, hs, h2⟩ := List.any_eq_true.mp h1
    exact dst_sym (List.mem_range.mp hs) (h.ds _ (by simpa using h2))
theorem isN_cl {m : Dm.Machine} {L : List (Nat × Nat)} {i k : Nat} (hi : ¬ isN m L i k m.k.toNat = true) : CL m L i k := by
  unfold isN at hi
  rw [Bool.or_eq_true, not_or] at hi
  refine .inr ⟨by simpa using hi.1, fun s hs hm => hi.2 ?_⟩
  exact List.any_eq_true.mpr ⟨s, List.mem_range.mpr hs, by simpa using hm⟩
def apO (m : Dm.Machine) (N K : Nat) (L : List (Nat × Nat)) : List (Nat × Ob) := [(0, ⟨5, [mk5 N K m.next m.start m.final], true, false, .fix⟩), (1, ⟨3, tbl prD L, true, false, .map [.i64, .i64] true false⟩)]
set_option maxRecDepth 10000 in
set_option maxHeartbeats 4000000 in
theorem apart_spec (m : Dm.Machine) (hm : m.ok) (hv : VM m) (N K : Nat) (hN : m.n = N) (hK : m.k = K) : Dm.SpecH Try.prog 65 [.ag (mk5 N K m.next m.start m.final)] [] (fun d o => d = .mp 1 ∧ ∃ L, o = [none, some ⟨3, tbl prD L, true, false, .map [.i64, .i64] true false⟩] ∧ ∀ i k, i < N → k < N → ((i, k) ∈ L ↔ Dst m i k)) := by
  refine specH_of_vc mixed Try.func65 c65 (by rw [show Try.f65.ntmps = _ from Try.ntmps65]; simp) ?_
  unfold m65 r65
  have hn := hv.n
  have hk := hv.k
  have hl := hv.len
  rw [hN] at hn hl
  rw [hK] at hk
  repeat' first | (refine Br.dec (fun h => ?_) (fun h => ?_) <;> try (exfalso; omega)) | (refine Br.eqi (fun h => ?_) (fun h => ?_) <;> try (exfalso; omega)) | (simp (disch := (first | omega | (simp only [List.length_cons, List.length_nil, List.length_append, List.length_map, List.length_replicate, List.length_take, List.length_drop, List.length_set, tab_length, tabD_len, i64s_len, bls_len, u8s_len, tbl_len, rows_len]; first | done | omega))) only [vap, ↓va0, ↓va1, ↓va2, ↓va3, vb0, vb1, vb2, vb3, vb4, vb5, vb6, vb7, vb8, vb9, vb10, vz0, vz1, vy0, vx0, ↓reduceIte, Nat.reduceBEq, Nat.reduceEqDiff, Nat.reduceLT, Nat.reduceLeDiff, Nat.reduceAdd, Nat.reduceMul, Nat.reduceSub, reduceCtorEq, Int.reduceToNat]) | (refine Br.mk (fun h => ?_) (fun h => ?_)) | (refine BrN.mk (fun h => ?_) ?_) | (refine AltVC.mk ?_ ?_)
  refine LoopVC.mk (X := List (Nat × Nat) × Bool) (fun x => [(3, .mp 1), (4, .v (.bool x.2))]) (fun x => apO m N K x.1) (fun x => if x.2 then cnt N x.1 + 1 else 0) (fun x => AI m N x.1 ∧ (x.2 = false → ∀ i k, i < N → k < N → CL m x.1 i k)) ([], true) ⟨⟨by simp, by simp [cnt]; exact Nat.le_trans (List.length_filter_le ..) (by simp), by simp⟩, by simp⟩ ?_ ?_
  · unfold apO
    (simp (disch := (first | omega | (simp only [List.length_cons, List.length_nil, List.length_append, List.length_map, List.length_replicate, List.length_take, List.length_drop, List.length_set, tab_length, tabD_len, i64s_len, bls_len, u8s_len, tbl_len, rows_len]; first | done | omega))) only [Fits_u, Fits_m, Fits_nil, List.length_append, vap, ↓va0, ↓va1, ↓va2, ↓va3, vb0, vb1, vb2, vb3, vb4, vb5, vb6, vb7, vb8, vb9, vb10, vz0, vz1, vy0, vx0, ↓reduceIte, Nat.reduceBEq, Nat.reduceEqDiff, Nat.reduceLT, Nat.reduceLeDiff, Nat.reduceAdd, Nat.reduceMul, Nat.reduceSub, reduceCtorEq, Int.reduceToNat] <;> (repeat' first | rfl | apply And.intro))
    all_goals trace_state
  · rintro ⟨L0, g0⟩ ⟨hA0, hc0⟩
    unfold apO
    simp only at hA0 hc0 ⊢
    repeat' first | (refine Br.dec (fun h => ?_) (fun h => ?_) <;> try (exfalso; omega)) | (refine Br.eqi (fun h => ?_) (fun h => ?_) <;> try (exfalso; omega)) | (simp (disch := (first | omega | (simp only [List.length_cons, List.length_nil, List.length_append, List.length_map, List.length_replicate, List.length_take, List.length_drop, List.length_set, tab_length, tabD_len, i64s_len, bls_len, u8s_len, tbl_len, rows_len]; first | done | omega))) only [vap, ↓va0, ↓va1, ↓va2, ↓va3, vb0, vb1, vb2, vb3, vb4, vb5, vb6, vb7, vb8, vb9, vb10, vz0, vz1, vy0, vx0, ↓reduceIte, Nat.reduceBEq, Nat.reduceEqDiff, Nat.reduceLT, Nat.reduceLeDiff, Nat.reduceAdd, Nat.reduceMul, Nat.reduceSub, reduceCtorEq, Int.reduceToNat]) | (refine Br.mk (fun h => ?_) (fun h => ?_)) | (refine BrN.mk (fun h => ?_) ?_) | (refine AltVC.mk ?_ ?_)
    · have hg0 := h
      subst hg0; clear h
      refine LoopVC.mk (X := List (Nat × Nat) × Bool × Nat) (fun x => [(3, .mp 1), (4, .v (.bool x.2.1)), (17, iv .i64 x.2.2)]) (fun x => apO m N K x.1) (fun x => N - x.2.2) (fun x => AI m N x.1 ∧ x.2.2 ≤ N ∧ cnt N x.1 + (if x.2.1 then 1 else 0) ≤ cnt N L0 ∧ (x.2.1 = false → ∀ a b, a < x.2.2 → b < N → CL m x.1 a b)) (L0, false, 0) ⟨hA0, Nat.zero_le _, by simp, fun _ a b ha => absurd ha (Nat.not_lt_zero _)⟩ ?_ ?_
      · unfold apO
        (simp (disch := (first | omega | (simp only [List.length_cons, List.length_nil, List.length_append, List.length_map, List.length_replicate, List.length_take, List.length_drop, List.length_set, tab_length, tabD_len, i64s_len, bls_len, u8s_len, tbl_len, rows_len]; first | done | omega))) only [Fits_u, Fits_m, Fits_nil, List.length_append, vap, ↓va0, ↓va1, ↓va2, ↓va3, vb0, vb1, vb2, vb3, vb4, vb5, vb6, vb7, vb8, vb9, vb10, vz0, vz1, vy0, vx0, ↓reduceIte, Nat.reduceBEq, Nat.reduceEqDiff, Nat.reduceLT, Nat.reduceLeDiff, Nat.reduceAdd, Nat.reduceMul, Nat.reduceSub, reduceCtorEq, Int.reduceToNat] <;> (repeat' first | rfl | apply And.intro))
        all_goals trace_state
      · rintro ⟨L1, g1, i⟩ ⟨hA1, hi, hd1, hc1⟩
        unfold apO
        simp only at hA1 hi hd1 hc1 ⊢
        repeat' first | (refine Br.dec (fun h => ?_) (fun h => ?_) <;> try (exfalso; omega)) | (refine Br.eqi (fun h => ?_) (fun h => ?_) <;> try (exfalso; omega)) | (simp (disch := (first | omega | (simp only [List.length_cons, List.length_nil, List.length_append, List.length_map, List.length_replicate, List.length_take, List.length_drop, List.length_set, tab_length, tabD_len, i64s_len, bls_len, u8s_len, tbl_len, rows_len]; first | done | omega))) only [vap, ↓va0, ↓va1, ↓va2, ↓va3, vb0, vb1, vb2, vb3, vb4, vb5, vb6, vb7, vb8, vb9, vb10, vz0, vz1, vy0, vx0, ↓reduceIte, Nat.reduceBEq, Nat.reduceEqDiff, Nat.reduceLT, Nat.reduceLeDiff, Nat.reduceAdd, Nat.reduceMul, Nat.reduceSub, reduceCtorEq, Int.reduceToNat]) | (refine Br.mk (fun h => ?_) (fun h => ?_)) | (refine BrN.mk (fun h => ?_) ?_) | (refine AltVC.mk ?_ ?_)
        · refine LoopVC.mk (X := List (Nat × Nat) × Bool × Nat) (fun x => [(3, .mp 1), (4, .v (.bool x.2.1)), (22, iv .i64 x.2.2)]) (fun x => apO m N K x.1) (fun x => N - x.2.2) (fun x => AI m N x.1 ∧ x.2.2 ≤ N ∧ cnt N x.1 + (if x.2.1 then 1 else 0) ≤ cnt N L0 ∧ (x.2.1 = false → (∀ a b, a < i → b < N → CL m x.1 a b) ∧ ∀ b, b < x.2.2 → CL m x.1 i b)) (L1, g1, 0) ⟨hA1, Nat.zero_le _, hd1, fun h => ⟨hc1 h, fun b hb => absurd hb (Nat.not_lt_zero _)⟩⟩ ?_ ?_
          · unfold apO
            (simp (disch := (first | omega | (simp only [List.length_cons, List.length_nil, List.length_append, List.length_map, List.length_replicate, List.length_take, List.length_drop, List.length_set, tab_length, tabD_len, i64s_len, bls_len, u8s_len, tbl_len, rows_len]; first | done | omega))) only [Fits_u, Fits_m, Fits_nil, List.length_append, vap, ↓va0, ↓va1, ↓va2, ↓va3, vb0, vb1, vb2, vb3, vb4, vb5, vb6, vb7, vb8, vb9, vb10, vz0, vz1, vy0, vx0, ↓reduceIte, Nat.reduceBEq, Nat.reduceEqDiff, Nat.reduceLT, Nat.reduceLeDiff, Nat.reduceAdd, Nat.reduceMul, Nat.reduceSub, reduceCtorEq, Int.reduceToNat] <;> (repeat' first | rfl | apply And.intro))
            all_goals trace_state
          · rintro ⟨L, g, k⟩ ⟨hA, hk', hd, hc⟩
            unfold apO
            simp only at hA hk' hd hc ⊢
            have hLl := hA.le (by omega)
            have hf1 := hm.2.2.2.2
            have hri := fun (h : i < N) => hv.row _ (getD_mem' (l := m.next) (i := i) (by omega))
            have hrk := fun (h : k < N) => hv.row _ (getD_mem' (l := m.next) (i := k) (by omega))
            repeat' first | (refine Br.dec (fun h => ?_) (fun h => ?_) <;> try (exfalso; omega)) | (refine Br.eqi (fun h => ?_) (fun h => ?_) <;> try (exfalso; omega)) | (simp (disch := (first | omega | (simp only [List.length_cons, List.length_nil, List.length_append, List.length_map, List.length_replicate, List.length_take, List.length_drop, List.length_set, tab_length, tabD_len, i64s_len, bls_len, u8s_len, tbl_len, rows_len]; first | done | omega))) only [vap, ↓va0, ↓va1, ↓va2, ↓va3, vb0, vb1, vb2, vb3, vb4, vb5, vb6, vb7, vb8, vb9, vb10, vz0, vz1, vy0, vx0, ↓reduceIte, Nat.reduceBEq, Nat.reduceEqDiff, Nat.reduceLT, Nat.reduceLeDiff, Nat.reduceAdd, Nat.reduceMul, Nat.reduceSub, reduceCtorEq, Int.reduceToNat]) | (refine Br.mk (fun h => ?_) (fun h => ?_)) | (refine BrN.mk (fun h => ?_) ?_) | (refine AltVC.mk ?_ ?_)
            · refine BrK.mk (fun r hr he => ?_) (fun hn => ?_)
              · have hin := key_in hr he
                repeat' first | (refine Br.dec (fun h => ?_) (fun h => ?_) <;> try (exfalso; omega)) | (refine Br.eqi (fun h => ?_) (fun h => ?_) <;> try (exfalso; omega)) | (simp (disch := (first | omega | (simp only [List.length_cons, List.length_nil, List.length_append, List.length_map, List.length_replicate, List.length_take, List.length_drop, List.length_set, tab_length, tabD_len, i64s_len, bls_len, u8s_len, tbl_len, rows_len]; first | done | omega))) only [vap, ↓va0, ↓va1, ↓va2, ↓va3, vb0, vb1, vb2, vb3, vb4, vb5, vb6, vb7, vb8, vb9, vb10, vz0, vz1, vy0, vx0, ↓reduceIte, Nat.reduceBEq, Nat.reduceEqDiff, Nat.reduceLT, Nat.reduceLeDiff, Nat.reduceAdd, Nat.reduceMul, Nat.reduceSub, reduceCtorEq, Int.reduceToNat]) | (refine Br.mk (fun h => ?_) (fun h => ?_)) | (refine BrN.mk (fun h => ?_) ?_) | (refine AltVC.mk ?_ ?_)
                refine loopK.mk (L, g, k + 1) (by simp (disch := (first | omega | (simp only [List.length_cons, List.length_nil, List.length_append, List.length_map, List.length_replicate, List.length_take, List.length_drop, List.length_set, tab_length, tabD_len, i64s_len, bls_len, u8s_len, tbl_len, rows_len]; first | done | omega))) only [↓va0, ↓va1, ↓va2, ↓va3, vb0, vb1, vb2, vb3, vb4, vb5, vb6, vb7, vb8, vb9, vb10, vz0, vz1, vy0, vx0, ↓reduceIte, Nat.reduceBEq, Nat.reduceEqDiff, Nat.reduceLT, Nat.reduceLeDiff, Nat.reduceAdd, Nat.reduceMul, Nat.reduceSub, reduceCtorEq, Int.reduceToNat]) ⟨hA, by show k + 1 ≤ N; omega, hd, fun h => ⟨(hc h).1, fun b hb => ?_⟩⟩ (by show N - (k + 1) < N - k; omega) ?_
                · by_cases e : b = k
                  · subst e; exact .inl hin
                  · exact (hc h).2 b (by show b < k; have : b < k + 1 := hb; omega)
                · (simp (disch := (first | omega | (simp only [List.length_cons, List.length_nil, List.length_append, List.length_map, List.length_replicate, List.length_take, List.length_drop, List.length_set, tab_length, tabD_len, i64s_len, bls_len, u8s_len, tbl_len, rows_len]; first | done | omega))) only [Fits_u, Fits_m, Fits_nil, List.length_append, vap, ↓va0, ↓va1, ↓va2, ↓va3, vb0, vb1, vb2, vb3, vb4, vb5, vb6, vb7, vb8, vb9, vb10, vz0, vz1, vy0, vx0, ↓reduceIte, Nat.reduceBEq, Nat.reduceEqDiff, Nat.reduceLT, Nat.reduceLeDiff, Nat.reduceAdd, Nat.reduceMul, Nat.reduceSub, reduceCtorEq, Int.reduceToNat] <;> (repeat' first | rfl | apply And.intro))
                  all_goals trace_state
              · have hnin := key_out hn
                have hi1 := hri (by omega)
                have hk1 := hrk (by omega)
                repeat' first | (refine Br.dec (fun h => ?_) (fun h => ?_) <;> try (exfalso; omega)) | (refine Br.eqi (fun h => ?_) (fun h => ?_) <;> try (exfalso; omega)) | (simp (disch := (first | omega | (simp only [List.length_cons, List.length_nil, List.length_append, List.length_map, List.length_replicate, List.length_take, List.length_drop, List.length_set, tab_length, tabD_len, i64s_len, bls_len, u8s_len, tbl_len, rows_len]; first | done | omega))) only [vap, ↓va0, ↓va1, ↓va2, ↓va3, vb0, vb1, vb2, vb3, vb4, vb5, vb6, vb7, vb8, vb9, vb10, vz0, vz1, vy0, vx0, ↓reduceIte, Nat.reduceBEq, Nat.reduceEqDiff, Nat.reduceLT, Nat.reduceLeDiff, Nat.reduceAdd, Nat.reduceMul, Nat.reduceSub, reduceCtorEq, Int.reduceToNat]) | (refine Br.mk (fun h => ?_) (fun h => ?_)) | (refine BrN.mk (fun h => ?_) ?_) | (refine AltVC.mk ?_ ?_)
                refine CallP.eq (has_n _ i hf1 (by omega)) (by simp) ?_
                repeat' first | (refine Br.dec (fun h => ?_) (fun h => ?_) <;> try (exfalso; omega)) | (refine Br.eqi (fun h => ?_) (fun h => ?_) <;> try (exfalso; omega)) | (simp (disch := (first | omega | (simp only [List.length_cons, List.length_nil, List.length_append, List.length_map, List.length_replicate, List.length_take, List.length_drop, List.length_set, tab_length, tabD_len, i64s_len, bls_len, u8s_len, tbl_len, rows_len]; first | done | omega))) only [vap, ↓va0, ↓va1, ↓va2, ↓va3, vb0, vb1, vb2, vb3, vb4, vb5, vb6, vb7, vb8, vb9, vb10, vz0, vz1, vy0, vx0, ↓reduceIte, Nat.reduceBEq, Nat.reduceEqDiff, Nat.reduceLT, Nat.reduceLeDiff, Nat.reduceAdd, Nat.reduceMul, Nat.reduceSub, reduceCtorEq, Int.reduceToNat]) | (refine Br.mk (fun h => ?_) (fun h => ?_)) | (refine BrN.mk (fun h => ?_) ?_) | (refine AltVC.mk ?_ ?_)
                refine CallP.eq (has_n _ k hf1 (by omega)) (by simp) ?_
                repeat' first | (refine Br.dec (fun h => ?_) (fun h => ?_) <;> try (exfalso; omega)) | (refine Br.eqi (fun h => ?_) (fun h => ?_) <;> try (exfalso; omega)) | (simp (disch := (first | omega | (simp only [List.length_cons, List.length_nil, List.length_append, List.length_map, List.length_replicate, List.length_take, List.length_drop, List.length_set, tab_length, tabD_len, i64s_len, bls_len, u8s_len, tbl_len, rows_len]; first | done | omega))) only [vap, ↓va0, ↓va1, ↓va2, ↓va3, vb0, vb1, vb2, vb3, vb4, vb5, vb6, vb7, vb8, vb9, vb10, vz0, vz1, vy0, vx0, ↓reduceIte, Nat.reduceBEq, Nat.reduceEqDiff, Nat.reduceLT, Nat.reduceLeDiff, Nat.reduceAdd, Nat.reduceMul, Nat.reduceSub, reduceCtorEq, Int.reduceToNat]) | (refine Br.mk (fun h => ?_) (fun h => ?_)) | (refine BrN.mk (fun h => ?_) ?_) | (refine AltVC.mk ?_ ?_)
                refine LoopVC.mk (X := Nat) (fun s => [(3, .mp 1), (9, .v (.bool (isN m L i k s))), (45, iv .i64 s)]) (fun _ => apO m N K L) (fun s => K - s) (fun s => s ≤ K) 0 (by omega) ?_ ?_
                · unfold apO
                  (simp (disch := (first | omega | (simp only [List.length_cons, List.length_nil, List.length_append, List.length_map, List.length_replicate, List.length_take, List.length_drop, List.length_set, tab_length, tabD_len, i64s_len, bls_len, u8s_len, tbl_len, rows_len]; first | done | omega))) only [Fits_u, Fits_m, Fits_nil, List.length_append, vap, ↓va0, ↓va1, ↓va2, ↓va3, vb0, vb1, vb2, vb3, vb4, vb5, vb6, vb7, vb8, vb9, vb10, vz0, vz1, vy0, vx0, ↓reduceIte, Nat.reduceBEq, Nat.reduceEqDiff, Nat.reduceLT, Nat.reduceLeDiff, Nat.reduceAdd, Nat.reduceMul, Nat.reduceSub, reduceCtorEq, Int.reduceToNat] <;> (repeat' first | rfl | apply And.intro))
                  simp [isN, bitF]
                · intro s hs
                  unfold apO
                  have e1 : (m.next.getD i default).getD s 0 = (nx m i s : Int) := nx_int hv.wm (by omega)
                  have e2 : (m.next.getD k default).getD s 0 = (nx m k s : Int) := nx_int hv.wm (by omega)
                  have b1 := nx_lt hv.wm (i := i) s (by omega)
                  have b2 := nx_lt hv.wm (i := k) s (by omega)
                  repeat' first | (refine Br.dec (fun h => ?_) (fun h => ?_) <;> try (exfalso; omega)) | (refine Br.eqi (fun h => ?_) (fun h => ?_) <;> try (exfalso; omega)) | (simp (disch := (first | omega | (simp only [List.length_cons, List.length_nil, List.length_append, List.length_map, List.length_replicate, List.length_take, List.length_drop, List.length_set, tab_length, tabD_len, i64s_len, bls_len, u8s_len, tbl_len, rows_len]; first | done | omega))) only [vap, e1, e2, ↓va0, ↓va1, ↓va2, ↓va3, vb0, vb1, vb2, vb3, vb4, vb5, vb6, vb7, vb8, vb9, vb10, vz0, vz1, vy0, vx0, ↓reduceIte, Nat.reduceBEq, Nat.reduceEqDiff, Nat.reduceLT, Nat.reduceLeDiff, Nat.reduceAdd, Nat.reduceMul, Nat.reduceSub, reduceCtorEq, Int.reduceToNat]) | (refine Br.mk (fun h => ?_) (fun h => ?_)) | (refine BrN.mk (fun h => ?_) ?_) | (refine AltVC.mk ?_ ?_)
                  · refine BrK.mk (fun r hr he => ?_) (fun hn => ?_)
                    · have hin := key_in hr he
                      repeat' first | (refine Br.dec (fun h => ?_) (fun h => ?_) <;> try (exfalso; omega)) | (refine Br.eqi (fun h => ?_) (fun h => ?_) <;> try (exfalso; omega)) | (simp (disch := (first | omega | (simp only [List.length_cons, List.length_nil, List.length_append, List.length_map, List.length_replicate, List.length_take, List.length_drop, List.length_set, tab_length, tabD_len, i64s_len, bls_len, u8s_len, tbl_len, rows_len]; first | done | omega))) only [vap, e1, e2, ↓va0, ↓va1, ↓va2, ↓va3, vb0, vb1, vb2, vb3, vb4, vb5, vb6, vb7, vb8, vb9, vb10, vz0, vz1, vy0, vx0, ↓reduceIte, Nat.reduceBEq, Nat.reduceEqDiff, Nat.reduceLT, Nat.reduceLeDiff, Nat.reduceAdd, Nat.reduceMul, Nat.reduceSub, reduceCtorEq, Int.reduceToNat]) | (refine Br.mk (fun h => ?_) (fun h => ?_)) | (refine BrN.mk (fun h => ?_) ?_) | (refine AltVC.mk ?_ ?_)
                      all_goals
                        refine loopK.mk (s + 1) (by simp (disch := (first | omega | (simp only [List.length_cons, List.length_nil, List.length_append, List.length_map, List.length_replicate, List.length_take, List.length_drop, List.length_set, tab_length, tabD_len, i64s_len, bls_len, u8s_len, tbl_len, rows_len]; first | done | omega))) only [↓va0, ↓va1, ↓va2, ↓va3, vb0, vb1, vb2, vb3, vb4, vb5, vb6, vb7, vb8, vb9, vb10, vz0, vz1, vy0, vx0, ↓reduceIte, Nat.reduceBEq, Nat.reduceEqDiff, Nat.reduceLT, Nat.reduceLeDiff, Nat.reduceAdd, Nat.reduceMul, Nat.reduceSub, reduceCtorEq, Int.reduceToNat]) (by omega) (by omega) ?_
                        rw [isN_succ, decide_eq_true hin]
                        (simp (disch := (first | omega | (simp only [List.length_cons, List.length_nil, List.length_append, List.length_map, List.length_replicate, List.length_take, List.length_drop, List.length_set, tab_length, tabD_len, i64s_len, bls_len, u8s_len, tbl_len, rows_len]; first | done | omega))) only [Fits_u, Fits_m, Fits_nil, List.length_append, vap, ↓va0, ↓va1, ↓va2, ↓va3, vb0, vb1, vb2, vb3, vb4, vb5, vb6, vb7, vb8, vb9, vb10, vz0, vz1, vy0, vx0, ↓reduceIte, Nat.reduceBEq, Nat.reduceEqDiff, Nat.reduceLT, Nat.reduceLeDiff, Nat.reduceAdd, Nat.reduceMul, Nat.reduceSub, reduceCtorEq, Int.reduceToNat] <;> (repeat' first | rfl | apply And.intro))
                        all_goals (try simp [*])
                    · have hnin := key_out hn
                      repeat' first | (refine Br.dec (fun h => ?_) (fun h => ?_) <;> try (exfalso; omega)) | (refine Br.eqi (fun h => ?_) (fun h => ?_) <;> try (exfalso; omega)) | (simp (disch := (first | omega | (simp only [List.length_cons, List.length_nil, List.length_append, List.length_map, List.length_replicate, List.length_take, List.length_drop, List.length_set, tab_length, tabD_len, i64s_len, bls_len, u8s_len, tbl_len, rows_len]; first | done | omega))) only [vap, e1, e2, ↓va0, ↓va1, ↓va2, ↓va3, vb0, vb1, vb2, vb3, vb4, vb5, vb6, vb7, vb8, vb9, vb10, vz0, vz1, vy0, vx0, ↓reduceIte, Nat.reduceBEq, Nat.reduceEqDiff, Nat.reduceLT, Nat.reduceLeDiff, Nat.reduceAdd, Nat.reduceMul, Nat.reduceSub, reduceCtorEq, Int.reduceToNat]) | (refine Br.mk (fun h => ?_) (fun h => ?_)) | (refine BrN.mk (fun h => ?_) ?_) | (refine AltVC.mk ?_ ?_)
                      all_goals
                        refine loopK.mk (s + 1) (by simp (disch := (first | omega | (simp only [List.length_cons, List.length_nil, List.length_append, List.length_map, List.length_replicate, List.length_take, List.length_drop, List.length_set, tab_length, tabD_len, i64s_len, bls_len, u8s_len, tbl_len, rows_len]; first | done | omega))) only [↓va0, ↓va1, ↓va2, ↓va3, vb0, vb1, vb2, vb3, vb4, vb5, vb6, vb7, vb8, vb9, vb10, vz0, vz1, vy0, vx0, ↓reduceIte, Nat.reduceBEq, Nat.reduceEqDiff, Nat.reduceLT, Nat.reduceLeDiff, Nat.reduceAdd, Nat.reduceMul, Nat.reduceSub, reduceCtorEq, Int.reduceToNat]) (by omega) (by omega) ?_
                        rw [isN_succ, decide_eq_false hnin]
                        (simp (disch := (first | omega | (simp only [List.length_cons, List.length_nil, List.length_append, List.length_map, List.length_replicate, List.length_take, List.length_drop, List.length_set, tab_length, tabD_len, i64s_len, bls_len, u8s_len, tbl_len, rows_len]; first | done | omega))) only [Fits_u, Fits_m, Fits_nil, List.length_append, vap, ↓va0, ↓va1, ↓va2, ↓va3, vb0, vb1, vb2, vb3, vb4, vb5, vb6, vb7, vb8, vb9, vb10, vz0, vz1, vy0, vx0, ↓reduceIte, Nat.reduceBEq, Nat.reduceEqDiff, Nat.reduceLT, Nat.reduceLeDiff, Nat.reduceAdd, Nat.reduceMul, Nat.reduceSub, reduceCtorEq, Int.reduceToNat] <;> (repeat' first | rfl | apply And.intro))
                        all_goals (try simp [*])
                  · have hd2 := isN_ds hA (i := i) (k := k) (by rw [show m.k.toNat = s by omega]; assumption)
                    refine BrK.mk (fun r hr he => absurd (key_in hr he) hnin) (fun hn => ?_)
                    repeat' first | (refine Br.dec (fun h => ?_) (fun h => ?_) <;> try (exfalso; omega)) | (refine Br.eqi (fun h => ?_) (fun h => ?_) <;> try (exfalso; omega)) | (simp (disch := (first | omega | (simp only [List.length_cons, List.length_nil, List.length_append, List.length_map, List.length_replicate, List.length_take, List.length_drop, List.length_set, tab_length, tabD_len, i64s_len, bls_len, u8s_len, tbl_len, rows_len]; first | done | omega))) only [vap, ↓va0, ↓va1, ↓va2, ↓va3, vb0, vb1, vb2, vb3, vb4, vb5, vb6, vb7, vb8, vb9, vb10, vz0, vz1, vy0, vx0, ↓reduceIte, Nat.reduceBEq, Nat.reduceEqDiff, Nat.reduceLT, Nat.reduceLeDiff, Nat.reduceAdd, Nat.reduceMul, Nat.reduceSub, reduceCtorEq, Int.reduceToNat]) | (refine Br.mk (fun h => ?_) (fun h => ?_)) | (refine BrN.mk (fun h => ?_) ?_) | (refine AltVC.mk ?_ ?_)
                    have hcl := cnt_lt (show i < N by omega) (show k < N by omega) hnin
                    have hA3 := hA.add (show i < N by omega) (show k < N by omega) hnin hd2
                    have eL : tbl prD (L ++ [(i, k)]) = tbl prD L ++ [[D.v (.int .i64 i), D.v (.int .i64 k), D.v (.int .i64 1)]] := by rw [tbl_app]; rfl
                    refine loopK.mk (L ++ [(i, k)], true, k + 1) (by simp (disch := (first | omega | (simp only [List.length_cons, List.length_nil, List.length_append, List.length_map, List.length_replicate, List.length_take, List.length_drop, List.length_set, tab_length, tabD_len, i64s_len, bls_len, u8s_len, tbl_len, rows_len]; first | done | omega))) only [↓va0, ↓va1, ↓va2, ↓va3, vb0, vb1, vb2, vb3, vb4, vb5, vb6, vb7, vb8, vb9, vb10, vz0, vz1, vy0, vx0, ↓reduceIte, Nat.reduceBEq, Nat.reduceEqDiff, Nat.reduceLT, Nat.reduceLeDiff, Nat.reduceAdd, Nat.reduceMul, Nat.reduceSub, reduceCtorEq, Int.reduceToNat]) ⟨hA3, by show k + 1 ≤ N; omega, ?_, by simp⟩ (by show N - (k + 1) < N - k; omega) ?_
                    · show cnt N (L ++ [(i, k)]) + 1 ≤ cnt N L0
                      omega
                    · simp only [eL]
                      (simp (disch := (first | omega | (simp only [List.length_cons, List.length_nil, List.length_append, List.length_map, List.length_replicate, List.length_take, List.length_drop, List.length_set, tab_length, tabD_len, i64s_len, bls_len, u8s_len, tbl_len, rows_len]; first | done | omega))) only [Fits_u, Fits_m, Fits_nil, List.length_append, vap, ↓va0, ↓va1, ↓va2, ↓va3, vb0, vb1, vb2, vb3, vb4, vb5, vb6, vb7, vb8, vb9, vb10, vz0, vz1, vy0, vx0, ↓reduceIte, Nat.reduceBEq, Nat.reduceEqDiff, Nat.reduceLT, Nat.reduceLeDiff, Nat.reduceAdd, Nat.reduceMul, Nat.reduceSub, reduceCtorEq, Int.reduceToNat] <;> (repeat' first | rfl | apply And.intro))
                      all_goals trace_state
                  · have hcl := isN_cl (m := m) (L := L) (i := i) (k := k) (by rw [show m.k.toNat = s by omega, Bool.not_eq_true]; assumption)
                    refine loopK.mk (L, g, k + 1) (by simp (disch := (first | omega | (simp only [List.length_cons, List.length_nil, List.length_append, List.length_map, List.length_replicate, List.length_take, List.length_drop, List.length_set, tab_length, tabD_len, i64s_len, bls_len, u8s_len, tbl_len, rows_len]; first | done | omega))) only [↓va0, ↓va1, ↓va2, ↓va3, vb0, vb1, vb2, vb3, vb4, vb5, vb6, vb7, vb8, vb9, vb10, vz0, vz1, vy0, vx0, ↓reduceIte, Nat.reduceBEq, Nat.reduceEqDiff, Nat.reduceLT, Nat.reduceLeDiff, Nat.reduceAdd, Nat.reduceMul, Nat.reduceSub, reduceCtorEq, Int.reduceToNat]) ⟨hA, by show k + 1 ≤ N; omega, hd, fun h => ⟨(hc h).1, fun b hb => ?_⟩⟩ (by show N - (k + 1) < N - k; omega) ?_
                    · by_cases e : b = k
                      · subst e; exact hcl
                      · exact (hc h).2 b (by show b < k; have : b < k + 1 := hb; omega)
                    · (simp (disch := (first | omega | (simp only [List.length_cons, List.length_nil, List.length_append, List.length_map, List.length_replicate, List.length_take, List.length_drop, List.length_set, tab_length, tabD_len, i64s_len, bls_len, u8s_len, tbl_len, rows_len]; first | done | omega))) only [Fits_u, Fits_m, Fits_nil, List.length_append, vap, ↓va0, ↓va1, ↓va2, ↓va3, vb0, vb1, vb2, vb3, vb4, vb5, vb6, vb7, vb8, vb9, vb10, vz0, vz1, vy0, vx0, ↓reduceIte, Nat.reduceBEq, Nat.reduceEqDiff, Nat.reduceLT, Nat.reduceLeDiff, Nat.reduceAdd, Nat.reduceMul, Nat.reduceSub, reduceCtorEq, Int.reduceToNat] <;> (repeat' first | rfl | apply And.intro))
                      all_goals trace_state
            · refine loopK.mk (L, g, i + 1) (by simp (disch := (first | omega | (simp only [List.length_cons, List.length_nil, List.length_append, List.length_map, List.length_replicate, List.length_take, List.length_drop, List.length_set, tab_length, tabD_len, i64s_len, bls_len, u8s_len, tbl_len, rows_len]; first | done | omega))) only [↓va0, ↓va1, ↓va2, ↓va3, vb0, vb1, vb2, vb3, vb4, vb5, vb6, vb7, vb8, vb9, vb10, vz0, vz1, vy0, vx0, ↓reduceIte, Nat.reduceBEq, Nat.reduceEqDiff, Nat.reduceLT, Nat.reduceLeDiff, Nat.reduceAdd, Nat.reduceMul, Nat.reduceSub, reduceCtorEq, Int.reduceToNat]) ⟨hA, by show i + 1 ≤ N; omega, hd, fun h a b ha hb => ?_⟩ (by show N - (i + 1) < N - i; omega) ?_
              · have hc2 := hc h
                have ha2 : a < i + 1 := ha
                by_cases e : a = i
                · subst e; exact hc2.2 b (by omega)
                · exact hc2.1 a b (by omega) hb
              · (simp (disch := (first | omega | (simp only [List.length_cons, List.length_nil, List.length_append, List.length_map, List.length_replicate, List.length_take, List.length_drop, List.length_set, tab_length, tabD_len, i64s_len, bls_len, u8s_len, tbl_len, rows_len]; first | done | omega))) only [Fits_u, Fits_m, Fits_nil, List.length_append, vap, ↓va0, ↓va1, ↓va2, ↓va3, vb0, vb1, vb2, vb3, vb4, vb5, vb6, vb7, vb8, vb9, vb10, vz0, vz1, vy0, vx0, ↓reduceIte, Nat.reduceBEq, Nat.reduceEqDiff, Nat.reduceLT, Nat.reduceLeDiff, Nat.reduceAdd, Nat.reduceMul, Nat.reduceSub, reduceCtorEq, Int.reduceToNat] <;> (repeat' first | rfl | apply And.intro))
                all_goals trace_state
        · refine loopK.mk (L1, g1) (by simp (disch := (first | omega | (simp only [List.length_cons, List.length_nil, List.length_append, List.length_map, List.length_replicate, List.length_take, List.length_drop, List.length_set, tab_length, tabD_len, i64s_len, bls_len, u8s_len, tbl_len, rows_len]; first | done | omega))) only [↓va0, ↓va1, ↓va2, ↓va3, vb0, vb1, vb2, vb3, vb4, vb5, vb6, vb7, vb8, vb9, vb10, vz0, vz1, vy0, vx0, ↓reduceIte, Nat.reduceBEq, Nat.reduceEqDiff, Nat.reduceLT, Nat.reduceLeDiff, Nat.reduceAdd, Nat.reduceMul, Nat.reduceSub, reduceCtorEq, Int.reduceToNat]) ⟨hA1, fun h a b ha hb => hc1 h a b (by show a < i; omega) hb⟩ ?_ ?_
          · cases g1 with
            | true => have : cnt N L1 + 1 ≤ cnt N L0 := hd1; simp; omega
            | false => simp
          · (simp (disch := (first | omega | (simp only [List.length_cons, List.length_nil, List.length_append, List.length_map, List.length_replicate, List.length_take, List.length_drop, List.length_set, tab_length, tabD_len, i64s_len, bls_len, u8s_len, tbl_len, rows_len]; first | done | omega))) only [Fits_u, Fits_m, Fits_nil, List.length_append, vap, ↓va0, ↓va1, ↓va2, ↓va3, vb0, vb1, vb2, vb3, vb4, vb5, vb6, vb7, vb8, vb9, vb10, vz0, vz1, vy0, vx0, ↓reduceIte, Nat.reduceBEq, Nat.reduceEqDiff, Nat.reduceLT, Nat.reduceLeDiff, Nat.reduceAdd, Nat.reduceMul, Nat.reduceSub, reduceCtorEq, Int.reduceToNat] <;> (repeat' first | rfl | apply And.intro))
            all_goals trace_state
    · subst h
      refine finH_mk [none, some ⟨3, tbl prD L0, true, false, .map [.i64, .i64] true false⟩] (by simp) (by simp (disch := (first | omega | (simp only [List.length_cons, List.length_nil, List.length_append, List.length_map, List.length_replicate, List.length_take, List.length_drop, List.length_set, tab_length, tabD_len, i64s_len, bls_len, u8s_len, tbl_len, rows_len]; first | done | omega))) only [vap, ↓va0, ↓va1, ↓va2, ↓va3, vb0, vb1, vb2, vb3, vb4, vb5, vb6, vb7, vb8, vb9, vb10, vz0, vz1, vy0, vx0, ↓reduceIte, Nat.reduceBEq, Nat.reduceEqDiff, Nat.reduceLT, Nat.reduceLeDiff, Nat.reduceAdd, Nat.reduceMul, Nat.reduceSub, reduceCtorEq, Int.reduceToNat]) (by simp (disch := (first | omega | (simp only [List.length_cons, List.length_nil, List.length_append, List.length_map, List.length_replicate, List.length_take, List.length_drop, List.length_set, tab_length, tabD_len, i64s_len, bls_len, u8s_len, tbl_len, rows_len]; first | done | omega))) only [vap, ↓va0, ↓va1, ↓va2, ↓va3, vb0, vb1, vb2, vb3, vb4, vb5, vb6, vb7, vb8, vb9, vb10, vz0, vz1, vy0, vx0, ↓reduceIte, Nat.reduceBEq, Nat.reduceEqDiff, Nat.reduceLT, Nat.reduceLeDiff, Nat.reduceAdd, Nat.reduceMul, Nat.reduceSub, reduceCtorEq, Int.reduceToNat]) ⟨by simp (disch := (first | omega | (simp only [List.length_cons, List.length_nil, List.length_append, List.length_map, List.length_replicate, List.length_take, List.length_drop, List.length_set, tab_length, tabD_len, i64s_len, bls_len, u8s_len, tbl_len, rows_len]; first | done | omega))) only [vap, ↓va0, ↓va1, ↓va2, ↓va3, vb0, vb1, vb2, vb3, vb4, vb5, vb6, vb7, vb8, vb9, vb10, vz0, vz1, vy0, vx0, ↓reduceIte, Nat.reduceBEq, Nat.reduceEqDiff, Nat.reduceLT, Nat.reduceLeDiff, Nat.reduceAdd, Nat.reduceMul, Nat.reduceSub, reduceCtorEq, Int.reduceToNat], L0, rfl, fun i k hi hk => ⟨fun h => hA0.ds _ h, fun ⟨n, h⟩ => dst_closed hv.wm (C := fun i k => (i, k) ∈ L0) ?_ ?_ n i k (by omega) (by omega) h⟩⟩
      · intro i k hi hk hb
        rcases hc0 rfl i k (by omega) (by omega) with h | h
        · exact h
        · exact absurd h.1 hb
      · intro i k s hi hk hs hC
        rcases hc0 rfl i k (by omega) (by omega) with h | h
        · exact h
        · exact absurd hC (h.2 s hs)
end Go.Proofs.Ytbbpmodfbdibcaa
