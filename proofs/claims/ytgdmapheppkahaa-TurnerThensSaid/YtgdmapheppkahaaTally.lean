/-
  tally: how many words; the laws TallyManies and more.
-/
import Derived.Test.YtgdmapheppkahaaMRun
namespace Go.Proofs.Ytgdmapheppkahaa
open Go.Dm
set_option linter.unusedSimpArgs false
set_option linter.unnecessarySimpa false
set_option linter.unusedVariables false

def sm (f : Nat → Nat) : Nat → Nat
  | 0 => 0
  | n + 1 => sm f n + f n
theorem sm_congr {f g : Nat → Nat} : ∀ {n : Nat}, (∀ i, i < n → f i = g i) → sm f n = sm g n
  | 0, _ => rfl
  | n + 1, h => by rw [sm, sm, sm_congr (n := n) fun i hi => h i (by omega), h n (by omega)]
theorem sm_le {f : Nat → Nat} {B : Nat} : ∀ {n : Nat}, (∀ i, i < n → f i ≤ B) → sm f n ≤ n * B
  | 0, _ => by simp [sm]
  | n + 1, h => by
    have a := sm_le (n := n) fun i hi => h i (by omega)
    have b := h n (by omega)
    rw [sm, Nat.succ_mul]; omega
theorem sm_mono {f : Nat → Nat} {n : Nat} : ∀ {k : Nat}, n ≤ k → sm f n ≤ sm f k
  | 0, h => by rw [show n = 0 by omega]; exact Nat.le_refl _
  | k + 1, h => by
    by_cases e : n = k + 1
    · rw [e]; exact Nat.le_refl _
    · have := sm_mono (f := f) (n := n) (k := k) (by omega)
      rw [sm]; omega
theorem sm_add {f g : Nat → Nat} : ∀ {n : Nat}, sm (fun i => f i + g i) n = sm f n + sm g n
  | 0 => rfl
  | n + 1 => by rw [sm, sm, sm, sm_add (n := n)]; omega
theorem sm_zero : ∀ {n : Nat}, sm (fun _ => 0) n = 0
  | 0 => rfl
  | n + 1 => by rw [sm, sm_zero (n := n)]
theorem sm_mul {f : Nat → Nat} {c : Nat} : ∀ {n : Nat}, sm (fun i => f i * c) n = sm f n * c
  | 0 => by simp [sm]
  | n + 1 => by rw [sm, sm, sm_mul (n := n), Nat.add_mul]
theorem sm_mull {f : Nat → Nat} {c : Nat} : ∀ {n : Nat}, sm (fun i => c * f i) n = c * sm f n
  | 0 => by simp [sm]
  | n + 1 => by rw [sm, sm, sm_mull (n := n), Nat.mul_add]
theorem sm_comm {f : Nat → Nat → Nat} {k : Nat} : ∀ {n : Nat}, sm (fun i => sm (f i) k) n = sm (fun j => sm (fun i => f i j) n) k
  | 0 => by simp [sm, sm_zero]
  | n + 1 => by rw [sm, sm_comm (n := n), ← sm_add]; rfl
theorem sm_one {f : Nat → Nat} {a : Nat} : ∀ {n : Nat}, sm (fun j => if j = a then f j else 0) n = if a < n then f a else 0
  | 0 => rfl
  | n + 1 => by
    rw [sm, sm_one (n := n)]
    by_cases e : a = n
    · subst e; simp
    · by_cases h : a < n
      · rw [if_pos h, if_neg (fun x => e x.symm), if_pos (by omega)]; omega
      · rw [if_neg h, if_neg (fun x => e x.symm), if_neg (by omega)]

def nxt (m : Dm.Machine) (i s : Nat) : Nat := ((m.next.getD i default).getD s 0).toNat
def fin (m : Dm.Machine) (i : Nat) : Nat := if m.final.toNat.testBit i = true then 1 else 0
/-- How many words of a length are taken from a state. -/
def cn (m : Dm.Machine) : Nat → Nat → Nat
  | 0, i => fin m i
  | k + 1, i => sm (fun s => cn m k (nxt m i s)) m.k.toNat
/-- How many words of a length lead from a state to another one. -/
def fw (m : Dm.Machine) (a : Nat) : Nat → Nat → Nat
  | 0, j => if j = a then 1 else 0
  | k + 1, j => sm (fun i => sm (fun s => if j = nxt m i s then fw m a k i else 0) m.k.toNat) m.n.toNat
theorem cn_le {m : Dm.Machine} (hk : m.k ≤ 3) : ∀ {k i : Nat}, cn m k i ≤ 3 ^ k
  | 0, i => by unfold cn fin; split <;> simp
  | k + 1, i => by
    have h := sm_le (f := fun s => cn m k (nxt m i s)) (n := m.k.toNat) fun s _ => cn_le hk (k := k)
    have h2 : m.k.toNat * 3 ^ k ≤ 3 * 3 ^ k := Nat.mul_le_mul_right _ (by omega)
    rw [cn, Nat.pow_succ]; omega
theorem cn_small {m : Dm.Machine} (hk : m.k ≤ 3) {k i : Nat} (h : k ≤ 12) : cn m k i ≤ 531441 :=
  Nat.le_trans (cn_le hk) (show 3 ^ k ≤ 3 ^ 12 from Nat.pow_le_pow_right (by omega) h)
theorem fw_le {m : Dm.Machine} (hk : m.k ≤ 3) (hn : m.n ≤ 7) {a : Nat} : ∀ {k j : Nat}, fw m a k j ≤ 21 ^ k
  | 0, j => by unfold fw; split <;> simp
  | k + 1, j => by
    have h : ∀ i, i < m.n.toNat → sm (fun s => if j = nxt m i s then fw m a k i else 0) m.k.toNat ≤ 3 * 21 ^ k := fun i _ => by
      have h := sm_le (f := fun s => if j = nxt m i s then fw m a k i else 0) (n := m.k.toNat) (B := 21 ^ k) fun s _ => by
        show (if _ then _ else _) ≤ _
        split
        · exact fw_le hk hn
        · exact Nat.zero_le _
      exact Nat.le_trans h (Nat.mul_le_mul_right _ (by omega))
    have h2 := sm_le h
    have h3 : m.n.toNat * (3 * 21 ^ k) ≤ 7 * (3 * 21 ^ k) := Nat.mul_le_mul_right _ (by omega)
    rw [fw, Nat.pow_succ]; omega
theorem fw_small {m : Dm.Machine} (hk : m.k ≤ 3) (hn : m.n ≤ 7) {a k j : Nat} (h : k ≤ 12) : fw m a k j ≤ 7355827511386641 :=
  Nat.le_trans (fw_le hk hn) (show 21 ^ k ≤ 21 ^ 12 from Nat.pow_le_pow_right (by omega) h)
theorem fw_step {m : Dm.Machine} (hv : ∀ i s, nxt m i s < m.n.toNat) {a k l : Nat} : sm (fun j => fw m a (k + 1) j * cn m l j) m.n.toNat = sm (fun i => fw m a k i * cn m (l + 1) i) m.n.toNat := by
  have e1 : ∀ j, fw m a (k + 1) j * cn m l j = sm (fun i => sm (fun s => if j = nxt m i s then fw m a k i * cn m l j else 0) m.k.toNat) m.n.toNat := fun j => by
    rw [fw, ← sm_mul]
    refine sm_congr fun i _ => ?_
    rw [← sm_mul]
    refine sm_congr fun s _ => ?_
    split <;> simp
  rw [sm_congr fun j _ => e1 j, sm_comm]
  refine sm_congr fun i _ => ?_
  rw [sm_comm, cn, ← sm_mull]
  refine sm_congr fun s _ => ?_
  rw [sm_one (f := fun j => fw m a k i * cn m l j), if_pos (hv i s)]
theorem fw_cn {m : Dm.Machine} (hv : ∀ i s, nxt m i s < m.n.toNat) {a n : Nat} (ha : a < m.n.toNat) : sm (fun i => if m.final.toNat.testBit i = true then fw m a n i else 0) m.n.toNat = cn m n a := by
  have h : ∀ k, k ≤ n → sm (fun j => fw m a k j * cn m (n - k) j) m.n.toNat = cn m n a := by
    intro k
    induction k with
    | zero =>
      intro _
      rw [Nat.sub_zero, sm_congr (g := fun j => if j = a then cn m n j else 0) fun j _ => by unfold fw; split <;> simp, sm_one (f := fun j => cn m n j), if_pos ha]
    | succ k ih =>
      intro hk
      rw [fw_step hv, show n - (k + 1) + 1 = n - k by omega]
      exact ih (by omega)
  rw [← h n (Nat.le_refl _)]
  refine sm_congr fun i _ => ?_
  rw [Nat.sub_self, cn, fin]
  split <;> simp
theorem VM.nxt {m : Dm.Machine} (hv : VM m) (i s : Nat) : nxt m i s < m.n.toNat := by
  have hn := hv.n
  have hlen := hv.len
  unfold Proofs.Ytgdmapheppkahaa.nxt
  by_cases h : i < m.next.length
  · have := getD_ok (by omega) (hv.to _ (getD_mem' h)) s
    omega
  · have : (m.next.getD i default).getD s 0 = 0 := by
      rw [show m.next.getD i default = [] by simp [List.getD, show m.next[i]? = none from List.getElem?_eq_none (by omega)]; rfl]; rfl
    omega
theorem has_n (S : Int) (n : Nat) (hS : 0 ≤ S ∧ S ≤ 4294967295) (hn : n ≤ 31) : Dm.Spec Try.prog 53 [iv .u32 S, iv .i64 n] (· = .v (.bool (S.toNat.testBit n))) := by
  have := has_i S n hS (by omega)
  rwa [Int.toNat_natCast] at this
def cnrs (m : Dm.Machine) (N n : Nat) : List (List Int) := (List.range n).map fun k => tab N fun j => (cn m k j : Int)
theorem cnrs_succ {m : Dm.Machine} {N n : Nat} : cnrs m N (n + 1) = cnrs m N n ++ [tab N fun j => (cn m n j : Int)] := by simp [cnrs, List.range_succ]
set_option maxRecDepth 10000 in
set_option maxHeartbeats 4000000 in
theorem counts_spec (m : Dm.Machine) (N : Nat) (hmn : m.n = N) (hf : 0 ≤ m.final ∧ m.final ≤ 4294967295) (hv : VM m) (n : Nat) (hN : n ≤ 12) : Dm.Spec Try.prog 57 [.ag [iv .i64 N, iv .i64 m.k, .sl 1 (rows i64s m.next), iv .i64 m.start, iv .u32 m.final], iv .i64 n] (· = .sl 1 (rows i64s (cnrs m N (n + 1)))) := by
  refine spec_of_vc mixed Try.func57 c57 (by rw [show Try.f57.ntmps = _ from Try.ntmps57]; simp) ?_
  unfold m57 r57
  have hn := hv.n
  have hk := hv.k
  have hlen := hv.len
  have hNN : m.n.toNat = N := by omega
  rw [hmn] at hn hlen
  have hrow : ∀ i, i < N → ((m.next.getD i default).length : Int) = m.k := fun i hi => hv.row _ (getD_mem' (by omega))
  have hto : ∀ i s, 0 ≤ (m.next.getD i default).getD s 0 ∧ (m.next.getD i default).getD s 0 < N := fun i s => by
    have := hv.nxt i s
    unfold Proofs.Ytgdmapheppkahaa.nxt at this
    by_cases h : i < m.next.length
    · rw [← hmn]; exact getD_ok (by omega) (hv.to _ (getD_mem' h)) s
    · have : (m.next.getD i default).getD s 0 = 0 := by
        rw [show m.next.getD i default = [] by simp [List.getD, show m.next[i]? = none from List.getElem?_eq_none (by omega)]; rfl]; rfl
      omega
  repeat' first | (refine Br.dec (fun h => ?_) (fun h => ?_) <;> try (exfalso; omega)) | (refine Br.eqi (fun h => ?_) (fun h => ?_) <;> try (exfalso; omega)) | (simp (disch := (first | omega | (simp only [vlen]; first | done | omega))) only [↓va0, ↓va1, ↓va2, ↓va3, vb0, vb1, vb2, vb3, vb4, vb5, vb6, vb7, vb8, vb9, vb10, vz0, vz1, vy0, vx0, ↓reduceIte, Nat.reduceBEq, Nat.reduceEqDiff, Nat.reduceLT, Nat.reduceLeDiff, Nat.reduceAdd, Nat.reduceMul, Nat.reduceSub, reduceCtorEq, Int.reduceToNat]) | (refine Br.mk (fun h => ?_) (fun h => ?_)) | (refine BrN.mk (fun h => ?_) ?_) | (refine AltVC.mk ?_ ?_)
  refine LoopVC.mk (X := Nat) (fun i => [(5, .ref 2 1 0 N), (17, iv .i64 i)]) (fun i => [(0, ⟨5, [[iv .i64 N, iv .i64 m.k, .sl 1 (rows i64s m.next), iv .i64 m.start, iv .u32 m.final]], true, false, .fix⟩), (2, ⟨1, i64s (tab N fun j => if j < i then (cn m 0 j : Int) else 0), true, false, .arr⟩)]) (fun i => N - i) (fun i => i ≤ N) 0 (by omega) ?_ ?_
  · (simp (disch := (first | omega | (simp only [vlen]; first | done | omega))) only [Fits_u, Fits_m, Fits_nil, List.length_append, ↓va0, ↓va1, ↓va2, ↓va3, vb0, vb1, vb2, vb3, vb4, vb5, vb6, vb7, vb8, vb9, vb10, vz0, vz1, vy0, vx0, ↓reduceIte, Nat.reduceBEq, Nat.reduceEqDiff, Nat.reduceLT, Nat.reduceLeDiff, Nat.reduceAdd, Nat.reduceMul, Nat.reduceSub, reduceCtorEq, Int.reduceToNat] <;> (repeat' first | rfl | apply And.intro))
    all_goals trace_state
  · intro i h1
    repeat' first | (refine Br.dec (fun h => ?_) (fun h => ?_) <;> try (exfalso; omega)) | (refine Br.eqi (fun h => ?_) (fun h => ?_) <;> try (exfalso; omega)) | (simp (disch := (first | omega | (simp only [vlen]; first | done | omega))) only [↓va0, ↓va1, ↓va2, ↓va3, vb0, vb1, vb2, vb3, vb4, vb5, vb6, vb7, vb8, vb9, vb10, vz0, vz1, vy0, vx0, ↓reduceIte, Nat.reduceBEq, Nat.reduceEqDiff, Nat.reduceLT, Nat.reduceLeDiff, Nat.reduceAdd, Nat.reduceMul, Nat.reduceSub, reduceCtorEq, Int.reduceToNat]) | (refine Br.mk (fun h => ?_) (fun h => ?_)) | (refine BrN.mk (fun h => ?_) ?_) | (refine AltVC.mk ?_ ?_)
    · refine CallVC.eq (has_n _ i hf (by omega)) ?_
      repeat' first | (refine Br.dec (fun h => ?_) (fun h => ?_) <;> try (exfalso; omega)) | (refine Br.eqi (fun h => ?_) (fun h => ?_) <;> try (exfalso; omega)) | (simp (disch := (first | omega | (simp only [vlen]; first | done | omega))) only [↓va0, ↓va1, ↓va2, ↓va3, vb0, vb1, vb2, vb3, vb4, vb5, vb6, vb7, vb8, vb9, vb10, vz0, vz1, vy0, vx0, ↓reduceIte, Nat.reduceBEq, Nat.reduceEqDiff, Nat.reduceLT, Nat.reduceLeDiff, Nat.reduceAdd, Nat.reduceMul, Nat.reduceSub, reduceCtorEq, Int.reduceToNat]) | (refine Br.mk (fun h => ?_) (fun h => ?_)) | (refine BrN.mk (fun h => ?_) ?_) | (refine AltVC.mk ?_ ?_)
      · refine loopK.mk (i + 1) (by simp (disch := (first | omega | (simp only [vlen]; first | done | omega))) only [↓va0, ↓va1, ↓va2, ↓va3, vb0, vb1, vb2, vb3, vb4, vb5, vb6, vb7, vb8, vb9, vb10, vz0, vz1, vy0, vx0, ↓reduceIte, Nat.reduceBEq, Nat.reduceEqDiff, Nat.reduceLT, Nat.reduceLeDiff, Nat.reduceAdd, Nat.reduceMul, Nat.reduceSub, reduceCtorEq, Int.reduceToNat]) (by omega) (by omega) ?_
        (simp (disch := (first | omega | (simp only [vlen]; first | done | omega))) only [Fits_u, Fits_m, Fits_nil, List.length_append, ↓va0, ↓va1, ↓va2, ↓va3, vb0, vb1, vb2, vb3, vb4, vb5, vb6, vb7, vb8, vb9, vb10, vz0, vz1, vy0, vx0, ↓reduceIte, Nat.reduceBEq, Nat.reduceEqDiff, Nat.reduceLT, Nat.reduceLeDiff, Nat.reduceAdd, Nat.reduceMul, Nat.reduceSub, reduceCtorEq, Int.reduceToNat] <;> (repeat' first | rfl | apply And.intro))
        exact obTab fun j hj => by
          by_cases e : j = i
          · subst e; rw [if_pos rfl, if_pos (by omega), cn, fin, if_pos (by assumption)]; rfl
          · rw [if_neg e]; (repeat' split) <;> first | rfl | omega
      · refine loopK.mk (i + 1) (by simp (disch := (first | omega | (simp only [vlen]; first | done | omega))) only [↓va0, ↓va1, ↓va2, ↓va3, vb0, vb1, vb2, vb3, vb4, vb5, vb6, vb7, vb8, vb9, vb10, vz0, vz1, vy0, vx0, ↓reduceIte, Nat.reduceBEq, Nat.reduceEqDiff, Nat.reduceLT, Nat.reduceLeDiff, Nat.reduceAdd, Nat.reduceMul, Nat.reduceSub, reduceCtorEq, Int.reduceToNat]) (by omega) (by omega) ?_
        (simp (disch := (first | omega | (simp only [vlen]; first | done | omega))) only [Fits_u, Fits_m, Fits_nil, List.length_append, ↓va0, ↓va1, ↓va2, ↓va3, vb0, vb1, vb2, vb3, vb4, vb5, vb6, vb7, vb8, vb9, vb10, vz0, vz1, vy0, vx0, ↓reduceIte, Nat.reduceBEq, Nat.reduceEqDiff, Nat.reduceLT, Nat.reduceLeDiff, Nat.reduceAdd, Nat.reduceMul, Nat.reduceSub, reduceCtorEq, Int.reduceToNat] <;> (repeat' first | rfl | apply And.intro))
        exact obTab fun j hj => by
          by_cases e : j = i
          · subst e; rw [if_neg (by omega), if_pos (by omega), cn, fin, if_neg (by simp [*])]; rfl
          · (repeat' split) <;> first | rfl | omega
    · have e0 : (tab N fun j => if j < i then (cn m 0 j : Int) else 0) = (tab N fun j => (cn m 0 j : Int)) := by
        exact tab_ext fun j hj => by rw [if_pos (by omega)]
      rw [e0]
      refine LoopVC.frz 2 ?_
      repeat' first | (refine Br.dec (fun h => ?_) (fun h => ?_) <;> try (exfalso; omega)) | (refine Br.eqi (fun h => ?_) (fun h => ?_) <;> try (exfalso; omega)) | (simp (disch := (first | omega | (simp only [vlen]; first | done | omega))) only [↓va0, ↓va1, ↓va2, ↓va3, vb0, vb1, vb2, vb3, vb4, vb5, vb6, vb7, vb8, vb9, vb10, vz0, vz1, vy0, vx0, ↓reduceIte, Nat.reduceBEq, Nat.reduceEqDiff, Nat.reduceLT, Nat.reduceLeDiff, Nat.reduceAdd, Nat.reduceMul, Nat.reduceSub, reduceCtorEq, Int.reduceToNat]) | (refine Br.mk (fun h => ?_) (fun h => ?_)) | (refine BrN.mk (fun h => ?_) ?_) | (refine AltVC.mk ?_ ?_)
      refine LoopVC.flt 3 ?_
      repeat' first | (refine Br.dec (fun h => ?_) (fun h => ?_) <;> try (exfalso; omega)) | (refine Br.eqi (fun h => ?_) (fun h => ?_) <;> try (exfalso; omega)) | (simp (disch := (first | omega | (simp only [vlen]; first | done | omega))) only [↓va0, ↓va1, ↓va2, ↓va3, vb0, vb1, vb2, vb3, vb4, vb5, vb6, vb7, vb8, vb9, vb10, vz0, vz1, vy0, vx0, ↓reduceIte, Nat.reduceBEq, Nat.reduceEqDiff, Nat.reduceLT, Nat.reduceLeDiff, Nat.reduceAdd, Nat.reduceMul, Nat.reduceSub, reduceCtorEq, Int.reduceToNat]) | (refine Br.mk (fun h => ?_) (fun h => ?_)) | (refine BrN.mk (fun h => ?_) ?_) | (refine AltVC.mk ?_ ?_)
      refine LoopVC.mk (X := Nat × List (List Int)) (fun x => [(5, .sl 1 (i64s (tab N fun j => (cn m x.1 j : Int)))), (7, .ref 3 1 0 x.2.length), (31, iv .i64 x.1)]) (fun x => [(0, ⟨5, [[iv .i64 N, iv .i64 m.k, .sl 1 (rows i64s m.next), iv .i64 m.start, iv .u32 m.final]], true, false, .fix⟩), (3, ⟨1, rows i64s x.2, true, false, .arr⟩)]) (fun x => n - x.1) (fun x => x.1 ≤ n ∧ x.2.length = x.1 + 1 ∧ x.2 = cnrs m N (x.1 + 1)) (0, [(tab N fun j => (cn m 0 j : Int))]) ⟨by simp, by simp, rfl⟩ ?_ ?_
      · (simp (disch := (first | omega | (simp only [vlen]; first | done | omega))) only [Fits_u, Fits_m, Fits_nil, List.length_append, ↓va0, ↓va1, ↓va2, ↓va3, vb0, vb1, vb2, vb3, vb4, vb5, vb6, vb7, vb8, vb9, vb10, vz0, vz1, vy0, vx0, ↓reduceIte, Nat.reduceBEq, Nat.reduceEqDiff, Nat.reduceLT, Nat.reduceLeDiff, Nat.reduceAdd, Nat.reduceMul, Nat.reduceSub, reduceCtorEq, Int.reduceToNat] <;> (repeat' first | rfl | apply And.intro))
        all_goals trace_state
      · rintro ⟨k, l⟩ ⟨h2, h3, h4⟩
        simp only at h2 h3 h4
        have hb0 : ∀ j, cn m k j ≤ 531441 := fun j => cn_small (by omega) (by omega)
        repeat' first | (refine Br.dec (fun h => ?_) (fun h => ?_) <;> try (exfalso; omega)) | (refine Br.eqi (fun h => ?_) (fun h => ?_) <;> try (exfalso; omega)) | (simp (disch := (first | omega | (simp only [vlen]; first | done | omega))) only [↓va0, ↓va1, ↓va2, ↓va3, vb0, vb1, vb2, vb3, vb4, vb5, vb6, vb7, vb8, vb9, vb10, vz0, vz1, vy0, vx0, ↓reduceIte, Nat.reduceBEq, Nat.reduceEqDiff, Nat.reduceLT, Nat.reduceLeDiff, Nat.reduceAdd, Nat.reduceMul, Nat.reduceSub, reduceCtorEq, Int.reduceToNat]) | (refine Br.mk (fun h => ?_) (fun h => ?_)) | (refine BrN.mk (fun h => ?_) ?_) | (refine AltVC.mk ?_ ?_)
        · refine LoopVC.mk (X := Nat) (fun i => [(8, .ref 4 1 0 N), (7, .ref 3 1 0 l.length), (38, iv .i64 i)]) (fun i => [(0, ⟨5, [[iv .i64 N, iv .i64 m.k, .sl 1 (rows i64s m.next), iv .i64 m.start, iv .u32 m.final]], true, false, .fix⟩), (3, ⟨1, rows i64s l, true, false, .arr⟩), (4, ⟨1, i64s (tab N fun j => if j < i then (cn m (k + 1) j : Int) else 0), true, false, .arr⟩)]) (fun i => N - i) (fun i => i ≤ N) 0 (by omega) ?_ ?_
          · (simp (disch := (first | omega | (simp only [vlen]; first | done | omega))) only [Fits_u, Fits_m, Fits_nil, List.length_append, ↓va0, ↓va1, ↓va2, ↓va3, vb0, vb1, vb2, vb3, vb4, vb5, vb6, vb7, vb8, vb9, vb10, vz0, vz1, vy0, vx0, ↓reduceIte, Nat.reduceBEq, Nat.reduceEqDiff, Nat.reduceLT, Nat.reduceLeDiff, Nat.reduceAdd, Nat.reduceMul, Nat.reduceSub, reduceCtorEq, Int.reduceToNat] <;> (repeat' first | rfl | apply And.intro))
            all_goals trace_state
          · intro i h5
            have hri := hrow i
            repeat' first | (refine Br.dec (fun h => ?_) (fun h => ?_) <;> try (exfalso; omega)) | (refine Br.eqi (fun h => ?_) (fun h => ?_) <;> try (exfalso; omega)) | (simp (disch := (first | omega | (simp only [vlen]; first | done | omega))) only [↓va0, ↓va1, ↓va2, ↓va3, vb0, vb1, vb2, vb3, vb4, vb5, vb6, vb7, vb8, vb9, vb10, vz0, vz1, vy0, vx0, ↓reduceIte, Nat.reduceBEq, Nat.reduceEqDiff, Nat.reduceLT, Nat.reduceLeDiff, Nat.reduceAdd, Nat.reduceMul, Nat.reduceSub, reduceCtorEq, Int.reduceToNat]) | (refine Br.mk (fun h => ?_) (fun h => ?_)) | (refine BrN.mk (fun h => ?_) ?_) | (refine AltVC.mk ?_ ?_)
            · have hri' := hri (by omega)
              refine LoopVC.mk (X := Nat) (fun s => [(7, .ref 3 1 0 l.length), (8, .ref 4 1 0 N), (47, iv .i64 s)]) (fun s => [(0, ⟨5, [[iv .i64 N, iv .i64 m.k, .sl 1 (rows i64s m.next), iv .i64 m.start, iv .u32 m.final]], true, false, .fix⟩), (3, ⟨1, rows i64s l, true, false, .arr⟩), (4, ⟨1, i64s (tab N fun j => if j < i then (cn m (k + 1) j : Int) else if j = i then ((sm (fun s => cn m k ((m.next.getD i default).getD s 0).toNat) s : Nat) : Int) else 0), true, false, .arr⟩)]) (fun s => (m.next.getD i default).length - s) (fun s => s ≤ (m.next.getD i default).length) 0 (by omega) ?_ ?_
              · (simp (disch := (first | omega | (simp only [vlen]; first | done | omega))) only [Fits_u, Fits_m, Fits_nil, List.length_append, ↓va0, ↓va1, ↓va2, ↓va3, vb0, vb1, vb2, vb3, vb4, vb5, vb6, vb7, vb8, vb9, vb10, vz0, vz1, vy0, vx0, ↓reduceIte, Nat.reduceBEq, Nat.reduceEqDiff, Nat.reduceLT, Nat.reduceLeDiff, Nat.reduceAdd, Nat.reduceMul, Nat.reduceSub, reduceCtorEq, Int.reduceToNat] <;> (repeat' first | rfl | apply And.intro))
                exact obTab fun j hj => by
                  (repeat' split) <;> first | rfl | omega
              · intro s h6
                have hs1 := sm_le (f := fun s => cn m k ((m.next.getD i default).getD s 0).toNat) (n := s) (B := 531441) fun j _ => hb0 _
                have hs2 := hb0 ((m.next.getD i default).getD s 0).toNat
                have hs3 := hto i s
                repeat' first | (refine Br.dec (fun h => ?_) (fun h => ?_) <;> try (exfalso; omega)) | (refine Br.eqi (fun h => ?_) (fun h => ?_) <;> try (exfalso; omega)) | (simp (disch := (first | omega | (simp only [vlen]; first | done | omega))) only [↓va0, ↓va1, ↓va2, ↓va3, vb0, vb1, vb2, vb3, vb4, vb5, vb6, vb7, vb8, vb9, vb10, vz0, vz1, vy0, vx0, ↓reduceIte, Nat.reduceBEq, Nat.reduceEqDiff, Nat.reduceLT, Nat.reduceLeDiff, Nat.reduceAdd, Nat.reduceMul, Nat.reduceSub, reduceCtorEq, Int.reduceToNat]) | (refine Br.mk (fun h => ?_) (fun h => ?_)) | (refine BrN.mk (fun h => ?_) ?_) | (refine AltVC.mk ?_ ?_)
                · refine loopK.mk (s + 1) (by simp (disch := (first | omega | (simp only [vlen]; first | done | omega))) only [↓va0, ↓va1, ↓va2, ↓va3, vb0, vb1, vb2, vb3, vb4, vb5, vb6, vb7, vb8, vb9, vb10, vz0, vz1, vy0, vx0, ↓reduceIte, Nat.reduceBEq, Nat.reduceEqDiff, Nat.reduceLT, Nat.reduceLeDiff, Nat.reduceAdd, Nat.reduceMul, Nat.reduceSub, reduceCtorEq, Int.reduceToNat]) (by omega) (by omega) ?_
                  (simp (disch := (first | omega | (simp only [vlen]; first | done | omega))) only [Fits_u, Fits_m, Fits_nil, List.length_append, ↓va0, ↓va1, ↓va2, ↓va3, vb0, vb1, vb2, vb3, vb4, vb5, vb6, vb7, vb8, vb9, vb10, vz0, vz1, vy0, vx0, ↓reduceIte, Nat.reduceBEq, Nat.reduceEqDiff, Nat.reduceLT, Nat.reduceLeDiff, Nat.reduceAdd, Nat.reduceMul, Nat.reduceSub, reduceCtorEq, Int.reduceToNat] <;> (repeat' first | rfl | apply And.intro))
                  exact obTab fun j hj => by
                    by_cases e : j = i
                    · subst e; rw [if_pos rfl, if_neg (by omega), if_pos rfl, sm]; omega
                    · rw [if_neg e, if_neg e, if_neg e]
                · refine loopK.mk (i + 1) (by simp (disch := (first | omega | (simp only [vlen]; first | done | omega))) only [↓va0, ↓va1, ↓va2, ↓va3, vb0, vb1, vb2, vb3, vb4, vb5, vb6, vb7, vb8, vb9, vb10, vz0, vz1, vy0, vx0, ↓reduceIte, Nat.reduceBEq, Nat.reduceEqDiff, Nat.reduceLT, Nat.reduceLeDiff, Nat.reduceAdd, Nat.reduceMul, Nat.reduceSub, reduceCtorEq, Int.reduceToNat]) (by omega) (by omega) ?_
                  (simp (disch := (first | omega | (simp only [vlen]; first | done | omega))) only [Fits_u, Fits_m, Fits_nil, List.length_append, ↓va0, ↓va1, ↓va2, ↓va3, vb0, vb1, vb2, vb3, vb4, vb5, vb6, vb7, vb8, vb9, vb10, vz0, vz1, vy0, vx0, ↓reduceIte, Nat.reduceBEq, Nat.reduceEqDiff, Nat.reduceLT, Nat.reduceLeDiff, Nat.reduceAdd, Nat.reduceMul, Nat.reduceSub, reduceCtorEq, Int.reduceToNat] <;> (repeat' first | rfl | apply And.intro))
                  exact obTab fun j hj => by
                    by_cases e : j = i
                    · subst e; rw [if_neg (by omega), if_pos rfl, if_pos (by omega), cn, show m.k.toNat = s by omega]; rfl
                    · (repeat' split) <;> first | rfl | omega
            · have e1 : (tab N fun j => if j < i then (cn m (k + 1) j : Int) else 0) = tab N fun j => (cn m (k + 1) j : Int) := tab_ext fun j hj => by rw [if_pos (by omega)]
              rw [e1]
              refine loopK.frz 4 ?_
              repeat' first | (refine Br.dec (fun h => ?_) (fun h => ?_) <;> try (exfalso; omega)) | (refine Br.eqi (fun h => ?_) (fun h => ?_) <;> try (exfalso; omega)) | (simp (disch := (first | omega | (simp only [vlen]; first | done | omega))) only [↓va0, ↓va1, ↓va2, ↓va3, vb0, vb1, vb2, vb3, vb4, vb5, vb6, vb7, vb8, vb9, vb10, vz0, vz1, vy0, vx0, ↓reduceIte, Nat.reduceBEq, Nat.reduceEqDiff, Nat.reduceLT, Nat.reduceLeDiff, Nat.reduceAdd, Nat.reduceMul, Nat.reduceSub, reduceCtorEq, Int.reduceToNat]) | (refine Br.mk (fun h => ?_) (fun h => ?_)) | (refine BrN.mk (fun h => ?_) ?_) | (refine AltVC.mk ?_ ?_)
              refine loopK.flt 3 ?_
              repeat' first | (refine Br.dec (fun h => ?_) (fun h => ?_) <;> try (exfalso; omega)) | (refine Br.eqi (fun h => ?_) (fun h => ?_) <;> try (exfalso; omega)) | (simp (disch := (first | omega | (simp only [vlen]; first | done | omega))) only [↓va0, ↓va1, ↓va2, ↓va3, vb0, vb1, vb2, vb3, vb4, vb5, vb6, vb7, vb8, vb9, vb10, vz0, vz1, vy0, vx0, ↓reduceIte, Nat.reduceBEq, Nat.reduceEqDiff, Nat.reduceLT, Nat.reduceLeDiff, Nat.reduceAdd, Nat.reduceMul, Nat.reduceSub, reduceCtorEq, Int.reduceToNat]) | (refine Br.mk (fun h => ?_) (fun h => ?_)) | (refine BrN.mk (fun h => ?_) ?_) | (refine AltVC.mk ?_ ?_)
              refine loopK.mk (k + 1, l ++ [tab N fun j => (cn m (k + 1) j : Int)]) (by simp (disch := (first | omega | (simp only [vlen]; first | done | omega))) only [↓va0, ↓va1, ↓va2, ↓va3, vb0, vb1, vb2, vb3, vb4, vb5, vb6, vb7, vb8, vb9, vb10, vz0, vz1, vy0, vx0, ↓reduceIte, Nat.reduceBEq, Nat.reduceEqDiff, Nat.reduceLT, Nat.reduceLeDiff, Nat.reduceAdd, Nat.reduceMul, Nat.reduceSub, reduceCtorEq, Int.reduceToNat]) ⟨by simp only; omega, by simp [h3], by rw [cnrs_succ, h4]⟩ (by simp only; omega) ?_
              (simp (disch := (first | omega | (simp only [vlen]; first | done | omega))) only [Fits_u, Fits_m, Fits_nil, List.length_append, ↓va0, ↓va1, ↓va2, ↓va3, vb0, vb1, vb2, vb3, vb4, vb5, vb6, vb7, vb8, vb9, vb10, vz0, vz1, vy0, vx0, ↓reduceIte, Nat.reduceBEq, Nat.reduceEqDiff, Nat.reduceLT, Nat.reduceLeDiff, Nat.reduceAdd, Nat.reduceMul, Nat.reduceSub, reduceCtorEq, Int.reduceToNat] <;> (repeat' first | rfl | apply And.intro))
              rw [rows_app]
        · refine fin_mk (congrArg (D.sl 1) ?_)
          rw [h4, show k = n by omega]
def tlc (m : Dm.Machine) (n : Int) : Int := if mcode m = 0 then (if n < 0 ∨ 12 < n then 1 else 0) else mcode m
set_option maxRecDepth 10000 in
set_option maxHeartbeats 4000000 in
theorem tcheck_spec (m : Dm.Machine) (hm : m.ok) (n : Int) : Dm.Spec Try.prog 56 [.ag (macD m), iv .i64 n] (· = iv .i64 (tlc m n)) := by
  refine spec_of_vc mixed Try.func56 c56 (by rw [show Try.f56.ntmps = _ from Try.ntmps56]; simp) ?_
  unfold m56 r56
  unfold tlc
  repeat' first | (refine Br.dec (fun h => ?_) (fun h => ?_) <;> try (exfalso; omega)) | (refine Br.eqi (fun h => ?_) (fun h => ?_) <;> try (exfalso; omega)) | (simp (disch := (first | omega | (simp only [vlen]; first | done | omega))) only [↓va0, ↓va1, ↓va2, ↓va3, vb0, vb1, vb2, vb3, vb4, vb5, vb6, vb7, vb8, vb9, vb10, vz0, vz1, vy0, vx0, ↓reduceIte, Nat.reduceBEq, Nat.reduceEqDiff, Nat.reduceLT, Nat.reduceLeDiff, Nat.reduceAdd, Nat.reduceMul, Nat.reduceSub, reduceCtorEq, Int.reduceToNat]) | (refine Br.mk (fun h => ?_) (fun h => ?_)) | (refine BrN.mk (fun h => ?_) ?_) | (refine AltVC.mk ?_ ?_)
  refine CallVC.eq (mCheck_spec m hm) ?_
  repeat' first | (refine Br.dec (fun h => ?_) (fun h => ?_) <;> try (exfalso; omega)) | (refine Br.eqi (fun h => ?_) (fun h => ?_) <;> try (exfalso; omega)) | (simp (disch := (first | omega | (simp only [vlen]; first | done | omega))) only [↓va0, ↓va1, ↓va2, ↓va3, vb0, vb1, vb2, vb3, vb4, vb5, vb6, vb7, vb8, vb9, vb10, vz0, vz1, vy0, vx0, ↓reduceIte, Nat.reduceBEq, Nat.reduceEqDiff, Nat.reduceLT, Nat.reduceLeDiff, Nat.reduceAdd, Nat.reduceMul, Nat.reduceSub, reduceCtorEq, Int.reduceToNat]) | (refine Br.mk (fun h => ?_) (fun h => ?_)) | (refine BrN.mk (fun h => ?_) ?_) | (refine AltVC.mk ?_ ?_)
  all_goals first
    | exact fin_mk (by rw [if_neg (by assumption)])
    | exact fin_mk (by rw [if_pos (by assumption), if_pos (by omega)])
    | exact fin_mk (viEq (by rw [if_pos (by assumption), if_neg (by omega)]; first | done | assumption))
set_option maxRecDepth 10000 in
set_option maxHeartbeats 4000000 in
theorem tallyCode_spec (m : Dm.Machine) (hm : m.ok) (n : Int) : Dm.Spec Try.prog 30 [.ag (macD m), iv .i64 n] (· = iv .i64 (tlc m n)) := by
  refine spec_of_vc mixed Try.func30 c30 (by rw [show Try.f30.ntmps = _ from Try.ntmps30]; simp) ?_
  unfold m30 r30
  unfold tlc
  repeat' first | (refine Br.dec (fun h => ?_) (fun h => ?_) <;> try (exfalso; omega)) | (refine Br.eqi (fun h => ?_) (fun h => ?_) <;> try (exfalso; omega)) | (simp (disch := (first | omega | (simp only [vlen]; first | done | omega))) only [↓va0, ↓va1, ↓va2, ↓va3, vb0, vb1, vb2, vb3, vb4, vb5, vb6, vb7, vb8, vb9, vb10, vz0, vz1, vy0, vx0, ↓reduceIte, Nat.reduceBEq, Nat.reduceEqDiff, Nat.reduceLT, Nat.reduceLeDiff, Nat.reduceAdd, Nat.reduceMul, Nat.reduceSub, reduceCtorEq, Int.reduceToNat]) | (refine Br.mk (fun h => ?_) (fun h => ?_)) | (refine BrN.mk (fun h => ?_) ?_) | (refine AltVC.mk ?_ ?_)
  refine CallVC.eq (refMCheck_spec m hm) ?_
  repeat' first | (refine Br.dec (fun h => ?_) (fun h => ?_) <;> try (exfalso; omega)) | (refine Br.eqi (fun h => ?_) (fun h => ?_) <;> try (exfalso; omega)) | (simp (disch := (first | omega | (simp only [vlen]; first | done | omega))) only [↓va0, ↓va1, ↓va2, ↓va3, vb0, vb1, vb2, vb3, vb4, vb5, vb6, vb7, vb8, vb9, vb10, vz0, vz1, vy0, vx0, ↓reduceIte, Nat.reduceBEq, Nat.reduceEqDiff, Nat.reduceLT, Nat.reduceLeDiff, Nat.reduceAdd, Nat.reduceMul, Nat.reduceSub, reduceCtorEq, Int.reduceToNat]) | (refine Br.mk (fun h => ?_) (fun h => ?_)) | (refine BrN.mk (fun h => ?_) ?_) | (refine AltVC.mk ?_ ?_)
  all_goals first
    | exact fin_mk (by rw [if_neg (by assumption)])
    | exact fin_mk (by rw [if_pos (by assumption), if_pos (by omega)])
    | exact fin_mk (viEq (by rw [if_pos (by assumption), if_neg (by omega)]; first | done | assumption))
theorem cnrs_get {m : Dm.Machine} {N n k : Nat} (h : k < n) : (cnrs m N n).getD k default = tab N fun j => (cn m k j : Int) := by
  simp [cnrs, List.getD, h]
theorem cnrs_len {m : Dm.Machine} {N n : Nat} : (cnrs m N n).length = n := by simp [cnrs]
set_option maxRecDepth 10000 in
set_option maxHeartbeats 4000000 in
theorem tmany_spec (m : Dm.Machine) (hm : m.ok) (hc : mcode m = 0) (n : Nat) (hN : n ≤ 12) : Dm.Spec Try.prog 29 [.ag (macD m), iv .i64 n] (· = .tu [iv .i64 (cn m n m.start.toNat), iv .i64 0]) := by
  refine spec_of_vc mixed Try.func29 c29 (by rw [show Try.f29.ntmps = _ from Try.ntmps29]; simp) ?_
  unfold m29 r29
  have hv := vm_of hm.2.2.2.2.1 hc
  have hn := hv.n
  have hst := hv.start
  have ht : tlc m n = 0 := by rw [tlc, if_pos hc, if_neg (by omega)]
  obtain ⟨N, hmn⟩ : ∃ N : Nat, m.n = N := ⟨m.n.toNat, by omega⟩
  have hg := @cnrs_get m N (n + 1) n (by omega)
  have hgl := @cnrs_len m N (n + 1)
  repeat' first | (refine Br.dec (fun h => ?_) (fun h => ?_) <;> try (exfalso; omega)) | (refine Br.eqi (fun h => ?_) (fun h => ?_) <;> try (exfalso; omega)) | (simp (disch := (first | omega | (simp only [vlen]; first | done | omega))) only [↓va0, ↓va1, ↓va2, ↓va3, vb0, vb1, vb2, vb3, vb4, vb5, vb6, vb7, vb8, vb9, vb10, vz0, vz1, vy0, vx0, ↓reduceIte, Nat.reduceBEq, Nat.reduceEqDiff, Nat.reduceLT, Nat.reduceLeDiff, Nat.reduceAdd, Nat.reduceMul, Nat.reduceSub, reduceCtorEq, Int.reduceToNat]) | (refine Br.mk (fun h => ?_) (fun h => ?_)) | (refine BrN.mk (fun h => ?_) ?_) | (refine AltVC.mk ?_ ?_)
  refine CallVC.eq (tcheck_spec m hm n) ?_
  rw [ht]
  repeat' first | (refine Br.dec (fun h => ?_) (fun h => ?_) <;> try (exfalso; omega)) | (refine Br.eqi (fun h => ?_) (fun h => ?_) <;> try (exfalso; omega)) | (simp (disch := (first | omega | (simp only [vlen]; first | done | omega))) only [↓va0, ↓va1, ↓va2, ↓va3, vb0, vb1, vb2, vb3, vb4, vb5, vb6, vb7, vb8, vb9, vb10, vz0, vz1, vy0, vx0, ↓reduceIte, Nat.reduceBEq, Nat.reduceEqDiff, Nat.reduceLT, Nat.reduceLeDiff, Nat.reduceAdd, Nat.reduceMul, Nat.reduceSub, reduceCtorEq, Int.reduceToNat]) | (refine Br.mk (fun h => ?_) (fun h => ?_)) | (refine BrN.mk (fun h => ?_) ?_) | (refine AltVC.mk ?_ ?_)
  rw [hmn]
  refine CallP.eq (counts_spec m N hmn hm.2.2.2.2 hv n hN) (by simp) ?_
  rw [hmn] at hst
  repeat' first | (refine Br.dec (fun h => ?_) (fun h => ?_) <;> try (exfalso; omega)) | (refine Br.eqi (fun h => ?_) (fun h => ?_) <;> try (exfalso; omega)) | (simp (disch := (first | omega | (simp only [vlen]; first | done | omega))) only [↓va0, ↓va1, ↓va2, ↓va3, vb0, vb1, vb2, vb3, vb4, vb5, vb6, vb7, vb8, vb9, vb10, vz0, vz1, vy0, vx0, ↓reduceIte, Nat.reduceBEq, Nat.reduceEqDiff, Nat.reduceLT, Nat.reduceLeDiff, Nat.reduceAdd, Nat.reduceMul, Nat.reduceSub, reduceCtorEq, Int.reduceToNat]) | (refine Br.mk (fun h => ?_) (fun h => ?_)) | (refine BrN.mk (fun h => ?_) ?_) | (refine AltVC.mk ?_ ?_)
  rw [hg]
  repeat' first | (refine Br.dec (fun h => ?_) (fun h => ?_) <;> try (exfalso; omega)) | (refine Br.eqi (fun h => ?_) (fun h => ?_) <;> try (exfalso; omega)) | (simp (disch := (first | omega | (simp only [vlen]; first | done | omega))) only [↓va0, ↓va1, ↓va2, ↓va3, vb0, vb1, vb2, vb3, vb4, vb5, vb6, vb7, vb8, vb9, vb10, vz0, vz1, vy0, vx0, ↓reduceIte, Nat.reduceBEq, Nat.reduceEqDiff, Nat.reduceLT, Nat.reduceLeDiff, Nat.reduceAdd, Nat.reduceMul, Nat.reduceSub, reduceCtorEq, Int.reduceToNat]) | (refine Br.mk (fun h => ?_) (fun h => ?_)) | (refine BrN.mk (fun h => ?_) ?_) | (refine AltVC.mk ?_ ?_)
  exact fin_mk rfl
theorem bit_n (S : Int) (n : Nat) (hS : 0 ≤ S ∧ S ≤ 4294967295) (hn : n ≤ 31) : Dm.Spec Try.prog 54 [iv .u32 S, iv .i64 n] (· = .v (.bool (S.toNat.testBit n))) := by
  have := bit_i S n hS (by omega)
  rwa [Int.toNat_natCast] at this
theorem fw_small' {m : Dm.Machine} (hk : m.k ≤ 3) (hn : m.n ≤ 7) {a k j : Nat} (h : k ≤ 11) : fw m a k j ≤ 350277500542221 :=
  Nat.le_trans (fw_le hk hn) (show 21 ^ k ≤ 21 ^ 11 from Nat.pow_le_pow_right (by omega) h)
set_option maxRecDepth 10000 in
set_option maxHeartbeats 4000000 in
theorem refMany_spec (m : Dm.Machine) (N : Nat) (hmn : m.n = N) (hf : 0 ≤ m.final ∧ m.final ≤ 4294967295) (hv : VM m) (a : Nat) (ha : a < N) (n : Nat) (hN : n ≤ 12) : Dm.Spec Try.prog 31 [.ag [iv .i64 N, iv .i64 m.k, .sl 1 (rows i64s m.next), iv .i64 m.start, iv .u32 m.final], iv .i64 a, iv .i64 n] (· = iv .i64 (cn m n a)) := by
  refine spec_of_vc mixed Try.func31 c31 (by rw [show Try.f31.ntmps = _ from Try.ntmps31]; simp) ?_
  unfold m31 r31
  have hn := hv.n
  have hk := hv.k
  have hlen := hv.len
  have hNN : m.n.toNat = N := by omega
  have hbig : ∀ k j, k ≤ 12 → fw m a k j ≤ 7355827511386641 := fun k j h => fw_small (by omega) (by omega) h
  have hbig' : ∀ k j, k ≤ 11 → fw m a k j ≤ 350277500542221 := fun k j h => fw_small' (by omega) (by omega) h
  rw [hmn] at hn hlen
  have hrow : ∀ i, i < N → ((m.next.getD i default).length : Int) = m.k := fun i hi => hv.row _ (getD_mem' (by omega))
  have hto : ∀ i s, 0 ≤ (m.next.getD i default).getD s 0 ∧ (m.next.getD i default).getD s 0 < N := fun i s => by
    have := hv.nxt i s
    unfold Proofs.Ytgdmapheppkahaa.nxt at this
    by_cases h : i < m.next.length
    · rw [← hmn]; exact getD_ok (by omega) (hv.to _ (getD_mem' h)) s
    · have : (m.next.getD i default).getD s 0 = 0 := by
        rw [show m.next.getD i default = [] by simp [List.getD, show m.next[i]? = none from List.getElem?_eq_none (by omega)]; rfl]; rfl
      omega
  repeat' first | (refine Br.dec (fun h => ?_) (fun h => ?_) <;> try (exfalso; omega)) | (refine Br.eqi (fun h => ?_) (fun h => ?_) <;> try (exfalso; omega)) | (simp (disch := (first | omega | (simp only [vlen]; first | done | omega))) only [↓va0, ↓va1, ↓va2, ↓va3, vb0, vb1, vb2, vb3, vb4, vb5, vb6, vb7, vb8, vb9, vb10, vz0, vz1, vy0, vx0, ↓reduceIte, Nat.reduceBEq, Nat.reduceEqDiff, Nat.reduceLT, Nat.reduceLeDiff, Nat.reduceAdd, Nat.reduceMul, Nat.reduceSub, reduceCtorEq, Int.reduceToNat]) | (refine Br.mk (fun h => ?_) (fun h => ?_)) | (refine BrN.mk (fun h => ?_) ?_) | (refine AltVC.mk ?_ ?_)
  have e0 : (tab N fun j => if j = a then (1 : Int) else 0) = tab N fun j => (fw m a 0 j : Int) := tab_ext fun j hj => by rw [fw]; split <;> rfl
  rw [e0]
  refine LoopVC.frz 1 ?_
  repeat' first | (refine Br.dec (fun h => ?_) (fun h => ?_) <;> try (exfalso; omega)) | (refine Br.eqi (fun h => ?_) (fun h => ?_) <;> try (exfalso; omega)) | (simp (disch := (first | omega | (simp only [vlen]; first | done | omega))) only [↓va0, ↓va1, ↓va2, ↓va3, vb0, vb1, vb2, vb3, vb4, vb5, vb6, vb7, vb8, vb9, vb10, vz0, vz1, vy0, vx0, ↓reduceIte, Nat.reduceBEq, Nat.reduceEqDiff, Nat.reduceLT, Nat.reduceLeDiff, Nat.reduceAdd, Nat.reduceMul, Nat.reduceSub, reduceCtorEq, Int.reduceToNat]) | (refine Br.mk (fun h => ?_) (fun h => ?_)) | (refine BrN.mk (fun h => ?_) ?_) | (refine AltVC.mk ?_ ?_)
  refine LoopVC.mk (X := Nat) (fun k => [(7, .sl 1 (i64s (tab N fun j => (fw m a k j : Int)))), (8, iv .i64 k)]) (fun k => [(0, ⟨5, [[iv .i64 N, iv .i64 m.k, .sl 1 (rows i64s m.next), iv .i64 m.start, iv .u32 m.final]], true, false, .fix⟩)]) (fun k => n - k) (fun k => k ≤ n) 0 (by omega) ?_ ?_
  · (simp (disch := (first | omega | (simp only [vlen]; first | done | omega))) only [Fits_u, Fits_m, Fits_nil, List.length_append, ↓va0, ↓va1, ↓va2, ↓va3, vb0, vb1, vb2, vb3, vb4, vb5, vb6, vb7, vb8, vb9, vb10, vz0, vz1, vy0, vx0, ↓reduceIte, Nat.reduceBEq, Nat.reduceEqDiff, Nat.reduceLT, Nat.reduceLeDiff, Nat.reduceAdd, Nat.reduceMul, Nat.reduceSub, reduceCtorEq, Int.reduceToNat] <;> (repeat' first | rfl | apply And.intro))
  · intro k h1
    repeat' first | (refine Br.dec (fun h => ?_) (fun h => ?_) <;> try (exfalso; omega)) | (refine Br.eqi (fun h => ?_) (fun h => ?_) <;> try (exfalso; omega)) | (simp (disch := (first | omega | (simp only [vlen]; first | done | omega))) only [↓va0, ↓va1, ↓va2, ↓va3, vb0, vb1, vb2, vb3, vb4, vb5, vb6, vb7, vb8, vb9, vb10, vz0, vz1, vy0, vx0, ↓reduceIte, Nat.reduceBEq, Nat.reduceEqDiff, Nat.reduceLT, Nat.reduceLeDiff, Nat.reduceAdd, Nat.reduceMul, Nat.reduceSub, reduceCtorEq, Int.reduceToNat]) | (refine Br.mk (fun h => ?_) (fun h => ?_)) | (refine BrN.mk (fun h => ?_) ?_) | (refine AltVC.mk ?_ ?_)
    · refine LoopVC.mk (X := Nat) (fun i => [(9, .ref 2 1 0 N), (10, iv .i64 i)]) (fun i => [(0, ⟨5, [[iv .i64 N, iv .i64 m.k, .sl 1 (rows i64s m.next), iv .i64 m.start, iv .u32 m.final]], true, false, .fix⟩), (2, ⟨1, i64s (tab N fun j => ((sm (fun i => (sm (fun s => if j = ((m.next.getD i default).getD s 0).toNat then fw m a k i else 0) m.k.toNat)) i : Nat) : Int)), true, false, .arr⟩)]) (fun i => N - i) (fun i => i ≤ N) 0 (by omega) ?_ ?_
      · (simp (disch := (first | omega | (simp only [vlen]; first | done | omega))) only [Fits_u, Fits_m, Fits_nil, List.length_append, ↓va0, ↓va1, ↓va2, ↓va3, vb0, vb1, vb2, vb3, vb4, vb5, vb6, vb7, vb8, vb9, vb10, vz0, vz1, vy0, vx0, ↓reduceIte, Nat.reduceBEq, Nat.reduceEqDiff, Nat.reduceLT, Nat.reduceLeDiff, Nat.reduceAdd, Nat.reduceMul, Nat.reduceSub, reduceCtorEq, Int.reduceToNat] <;> (repeat' first | rfl | apply And.intro))
        all_goals first
          | rfl
          | trace_state
      · intro i h2
        have hri := hrow i
        have hb0 := hbig' k i (by omega)
        repeat' first | (refine Br.dec (fun h => ?_) (fun h => ?_) <;> try (exfalso; omega)) | (refine Br.eqi (fun h => ?_) (fun h => ?_) <;> try (exfalso; omega)) | (simp (disch := (first | omega | (simp only [vlen]; first | done | omega))) only [↓va0, ↓va1, ↓va2, ↓va3, vb0, vb1, vb2, vb3, vb4, vb5, vb6, vb7, vb8, vb9, vb10, vz0, vz1, vy0, vx0, ↓reduceIte, Nat.reduceBEq, Nat.reduceEqDiff, Nat.reduceLT, Nat.reduceLeDiff, Nat.reduceAdd, Nat.reduceMul, Nat.reduceSub, reduceCtorEq, Int.reduceToNat]) | (refine Br.mk (fun h => ?_) (fun h => ?_)) | (refine BrN.mk (fun h => ?_) ?_) | (refine AltVC.mk ?_ ?_)
        · have hri' := hri (by omega)
          refine LoopVC.mk (X := Nat) (fun s => [(9, .ref 2 1 0 N), (11, iv .i64 s)]) (fun s => [(0, ⟨5, [[iv .i64 N, iv .i64 m.k, .sl 1 (rows i64s m.next), iv .i64 m.start, iv .u32 m.final]], true, false, .fix⟩), (2, ⟨1, i64s (tab N fun j => ((sm (fun i => (sm (fun s => if j = ((m.next.getD i default).getD s 0).toNat then fw m a k i else 0) m.k.toNat)) i + sm (fun s => if j = ((m.next.getD i default).getD s 0).toNat then fw m a k i else 0) s : Nat) : Int)), true, false, .arr⟩)]) (fun s => m.k.toNat - s) (fun s => s ≤ m.k.toNat) 0 (by omega) ?_ ?_
          · (simp (disch := (first | omega | (simp only [vlen]; first | done | omega))) only [Fits_u, Fits_m, Fits_nil, List.length_append, ↓va0, ↓va1, ↓va2, ↓va3, vb0, vb1, vb2, vb3, vb4, vb5, vb6, vb7, vb8, vb9, vb10, vz0, vz1, vy0, vx0, ↓reduceIte, Nat.reduceBEq, Nat.reduceEqDiff, Nat.reduceLT, Nat.reduceLeDiff, Nat.reduceAdd, Nat.reduceMul, Nat.reduceSub, reduceCtorEq, Int.reduceToNat] <;> (repeat' first | rfl | apply And.intro))
            all_goals first
              | rfl
              | trace_state
          · intro s h3
            have hs3 := hto i s
            have hb1 : sm (fun i' => (sm (fun s' => if ((m.next.getD i default).getD s 0).toNat = ((m.next.getD i' default).getD s' 0).toNat then fw m a k i' else 0) m.k.toNat)) i ≤ i * (3 * 350277500542221) := sm_le fun i' _ => by
              have := sm_le (f := fun s' => if ((m.next.getD i default).getD s 0).toNat = ((m.next.getD i' default).getD s' 0).toNat then fw m a k i' else 0) (n := m.k.toNat) (B := 350277500542221) fun s' _ => by
                show (if _ then _ else _) ≤ _
                split
                · exact hbig' _ _ (by omega)
                · exact Nat.zero_le _
              exact Nat.le_trans this (Nat.mul_le_mul_right _ (by omega))
            have hb2 : sm (fun s' => if ((m.next.getD i default).getD s 0).toNat = ((m.next.getD i default).getD s' 0).toNat then fw m a k i else 0) s ≤ s * 350277500542221 := sm_le fun s' _ => by
              show (if _ then _ else _) ≤ _
              split
              · exact hbig' _ _ (by omega)
              · exact Nat.zero_le _
            repeat' first | (refine Br.dec (fun h => ?_) (fun h => ?_) <;> try (exfalso; omega)) | (refine Br.eqi (fun h => ?_) (fun h => ?_) <;> try (exfalso; omega)) | (simp (disch := (first | omega | (simp only [vlen]; first | done | omega))) only [↓va0, ↓va1, ↓va2, ↓va3, vb0, vb1, vb2, vb3, vb4, vb5, vb6, vb7, vb8, vb9, vb10, vz0, vz1, vy0, vx0, ↓reduceIte, Nat.reduceBEq, Nat.reduceEqDiff, Nat.reduceLT, Nat.reduceLeDiff, Nat.reduceAdd, Nat.reduceMul, Nat.reduceSub, reduceCtorEq, Int.reduceToNat]) | (refine Br.mk (fun h => ?_) (fun h => ?_)) | (refine BrN.mk (fun h => ?_) ?_) | (refine AltVC.mk ?_ ?_)
            · refine loopK.mk (s + 1) (by simp (disch := (first | omega | (simp only [vlen]; first | done | omega))) only [↓va0, ↓va1, ↓va2, ↓va3, vb0, vb1, vb2, vb3, vb4, vb5, vb6, vb7, vb8, vb9, vb10, vz0, vz1, vy0, vx0, ↓reduceIte, Nat.reduceBEq, Nat.reduceEqDiff, Nat.reduceLT, Nat.reduceLeDiff, Nat.reduceAdd, Nat.reduceMul, Nat.reduceSub, reduceCtorEq, Int.reduceToNat]) (by omega) (by omega) ?_
              (simp (disch := (first | omega | (simp only [vlen]; first | done | omega))) only [Fits_u, Fits_m, Fits_nil, List.length_append, ↓va0, ↓va1, ↓va2, ↓va3, vb0, vb1, vb2, vb3, vb4, vb5, vb6, vb7, vb8, vb9, vb10, vz0, vz1, vy0, vx0, ↓reduceIte, Nat.reduceBEq, Nat.reduceEqDiff, Nat.reduceLT, Nat.reduceLeDiff, Nat.reduceAdd, Nat.reduceMul, Nat.reduceSub, reduceCtorEq, Int.reduceToNat] <;> (repeat' first | rfl | apply And.intro))
              exact obTab fun j hj => by
                by_cases e : j = ((m.next.getD i default).getD s 0).toNat
                · rw [if_pos e, sm, if_pos e]; simp only [← e]; omega
                · rw [if_neg e, sm, if_neg e]; omega
            · refine loopK.mk (i + 1) (by simp (disch := (first | omega | (simp only [vlen]; first | done | omega))) only [↓va0, ↓va1, ↓va2, ↓va3, vb0, vb1, vb2, vb3, vb4, vb5, vb6, vb7, vb8, vb9, vb10, vz0, vz1, vy0, vx0, ↓reduceIte, Nat.reduceBEq, Nat.reduceEqDiff, Nat.reduceLT, Nat.reduceLeDiff, Nat.reduceAdd, Nat.reduceMul, Nat.reduceSub, reduceCtorEq, Int.reduceToNat]) (by omega) (by omega) ?_
              (simp (disch := (first | omega | (simp only [vlen]; first | done | omega))) only [Fits_u, Fits_m, Fits_nil, List.length_append, ↓va0, ↓va1, ↓va2, ↓va3, vb0, vb1, vb2, vb3, vb4, vb5, vb6, vb7, vb8, vb9, vb10, vz0, vz1, vy0, vx0, ↓reduceIte, Nat.reduceBEq, Nat.reduceEqDiff, Nat.reduceLT, Nat.reduceLeDiff, Nat.reduceAdd, Nat.reduceMul, Nat.reduceSub, reduceCtorEq, Int.reduceToNat] <;> (repeat' first | rfl | apply And.intro))
              exact obTab fun j hj => by
                rw [sm, show m.k.toNat = s by omega]
        · refine loopK.frz 2 ?_
          repeat' first | (refine Br.dec (fun h => ?_) (fun h => ?_) <;> try (exfalso; omega)) | (refine Br.eqi (fun h => ?_) (fun h => ?_) <;> try (exfalso; omega)) | (simp (disch := (first | omega | (simp only [vlen]; first | done | omega))) only [↓va0, ↓va1, ↓va2, ↓va3, vb0, vb1, vb2, vb3, vb4, vb5, vb6, vb7, vb8, vb9, vb10, vz0, vz1, vy0, vx0, ↓reduceIte, Nat.reduceBEq, Nat.reduceEqDiff, Nat.reduceLT, Nat.reduceLeDiff, Nat.reduceAdd, Nat.reduceMul, Nat.reduceSub, reduceCtorEq, Int.reduceToNat]) | (refine Br.mk (fun h => ?_) (fun h => ?_)) | (refine BrN.mk (fun h => ?_) ?_) | (refine AltVC.mk ?_ ?_)
          refine loopK.mk (k + 1) (by simp (disch := (first | omega | (simp only [vlen]; first | done | omega))) only [↓va0, ↓va1, ↓va2, ↓va3, vb0, vb1, vb2, vb3, vb4, vb5, vb6, vb7, vb8, vb9, vb10, vz0, vz1, vy0, vx0, ↓reduceIte, Nat.reduceBEq, Nat.reduceEqDiff, Nat.reduceLT, Nat.reduceLeDiff, Nat.reduceAdd, Nat.reduceMul, Nat.reduceSub, reduceCtorEq, Int.reduceToNat]) (by omega) (by omega) ?_
          (simp (disch := (first | omega | (simp only [vlen]; first | done | omega))) only [Fits_u, Fits_m, Fits_nil, List.length_append, ↓va0, ↓va1, ↓va2, ↓va3, vb0, vb1, vb2, vb3, vb4, vb5, vb6, vb7, vb8, vb9, vb10, vz0, vz1, vy0, vx0, ↓reduceIte, Nat.reduceBEq, Nat.reduceEqDiff, Nat.reduceLT, Nat.reduceLeDiff, Nat.reduceAdd, Nat.reduceMul, Nat.reduceSub, reduceCtorEq, Int.reduceToNat] <;> (repeat' first | rfl | apply And.intro))
          exact slTab fun j hj => by rw [fw, hNN, show N = i by omega]; rfl
    · refine LoopVC.mk (X := Nat) (fun i => [(12, iv .i64 ((sm (fun i => if m.final.toNat.testBit i = true then fw m a k i else 0) i : Nat) : Int)), (13, iv .i64 i)]) (fun i => [(0, ⟨5, [[iv .i64 N, iv .i64 m.k, .sl 1 (rows i64s m.next), iv .i64 m.start, iv .u32 m.final]], true, false, .fix⟩)]) (fun i => N - i) (fun i => i ≤ N) 0 (by omega) ?_ ?_
      · (simp (disch := (first | omega | (simp only [vlen]; first | done | omega))) only [Fits_u, Fits_m, Fits_nil, List.length_append, ↓va0, ↓va1, ↓va2, ↓va3, vb0, vb1, vb2, vb3, vb4, vb5, vb6, vb7, vb8, vb9, vb10, vz0, vz1, vy0, vx0, ↓reduceIte, Nat.reduceBEq, Nat.reduceEqDiff, Nat.reduceLT, Nat.reduceLeDiff, Nat.reduceAdd, Nat.reduceMul, Nat.reduceSub, reduceCtorEq, Int.reduceToNat] <;> (repeat' first | rfl | apply And.intro))
        all_goals first
          | rfl
          | trace_state
      · intro i h2
        have hb0 := hbig k i (by omega)
        have hb1 : sm (fun i => if m.final.toNat.testBit i = true then fw m a k i else 0) i ≤ i * 7355827511386641 := sm_le fun j _ => by
          show (if _ then _ else _) ≤ _
          split
          · exact hbig _ _ (by omega)
          · exact Nat.zero_le _
        repeat' first | (refine Br.dec (fun h => ?_) (fun h => ?_) <;> try (exfalso; omega)) | (refine Br.eqi (fun h => ?_) (fun h => ?_) <;> try (exfalso; omega)) | (simp (disch := (first | omega | (simp only [vlen]; first | done | omega))) only [↓va0, ↓va1, ↓va2, ↓va3, vb0, vb1, vb2, vb3, vb4, vb5, vb6, vb7, vb8, vb9, vb10, vz0, vz1, vy0, vx0, ↓reduceIte, Nat.reduceBEq, Nat.reduceEqDiff, Nat.reduceLT, Nat.reduceLeDiff, Nat.reduceAdd, Nat.reduceMul, Nat.reduceSub, reduceCtorEq, Int.reduceToNat]) | (refine Br.mk (fun h => ?_) (fun h => ?_)) | (refine BrN.mk (fun h => ?_) ?_) | (refine AltVC.mk ?_ ?_)
        · refine CallVC.eq (bit_n _ i hf (by omega)) ?_
          repeat' first | (refine Br.dec (fun h => ?_) (fun h => ?_) <;> try (exfalso; omega)) | (refine Br.eqi (fun h => ?_) (fun h => ?_) <;> try (exfalso; omega)) | (simp (disch := (first | omega | (simp only [vlen]; first | done | omega))) only [↓va0, ↓va1, ↓va2, ↓va3, vb0, vb1, vb2, vb3, vb4, vb5, vb6, vb7, vb8, vb9, vb10, vz0, vz1, vy0, vx0, ↓reduceIte, Nat.reduceBEq, Nat.reduceEqDiff, Nat.reduceLT, Nat.reduceLeDiff, Nat.reduceAdd, Nat.reduceMul, Nat.reduceSub, reduceCtorEq, Int.reduceToNat]) | (refine Br.mk (fun h => ?_) (fun h => ?_)) | (refine BrN.mk (fun h => ?_) ?_) | (refine AltVC.mk ?_ ?_)
          · refine loopK.mk (i + 1) (by simp (disch := (first | omega | (simp only [vlen]; first | done | omega))) only [↓va0, ↓va1, ↓va2, ↓va3, vb0, vb1, vb2, vb3, vb4, vb5, vb6, vb7, vb8, vb9, vb10, vz0, vz1, vy0, vx0, ↓reduceIte, Nat.reduceBEq, Nat.reduceEqDiff, Nat.reduceLT, Nat.reduceLeDiff, Nat.reduceAdd, Nat.reduceMul, Nat.reduceSub, reduceCtorEq, Int.reduceToNat]) (by omega) (by omega) ?_
            (simp (disch := (first | omega | (simp only [vlen]; first | done | omega))) only [Fits_u, Fits_m, Fits_nil, List.length_append, ↓va0, ↓va1, ↓va2, ↓va3, vb0, vb1, vb2, vb3, vb4, vb5, vb6, vb7, vb8, vb9, vb10, vz0, vz1, vy0, vx0, ↓reduceIte, Nat.reduceBEq, Nat.reduceEqDiff, Nat.reduceLT, Nat.reduceLeDiff, Nat.reduceAdd, Nat.reduceMul, Nat.reduceSub, reduceCtorEq, Int.reduceToNat] <;> (repeat' first | rfl | apply And.intro))
            exact viEq (by rw [sm, if_pos (by assumption)]; omega)
          · refine loopK.mk (i + 1) (by simp (disch := (first | omega | (simp only [vlen]; first | done | omega))) only [↓va0, ↓va1, ↓va2, ↓va3, vb0, vb1, vb2, vb3, vb4, vb5, vb6, vb7, vb8, vb9, vb10, vz0, vz1, vy0, vx0, ↓reduceIte, Nat.reduceBEq, Nat.reduceEqDiff, Nat.reduceLT, Nat.reduceLeDiff, Nat.reduceAdd, Nat.reduceMul, Nat.reduceSub, reduceCtorEq, Int.reduceToNat]) (by omega) (by omega) ?_
            (simp (disch := (first | omega | (simp only [vlen]; first | done | omega))) only [Fits_u, Fits_m, Fits_nil, List.length_append, ↓va0, ↓va1, ↓va2, ↓va3, vb0, vb1, vb2, vb3, vb4, vb5, vb6, vb7, vb8, vb9, vb10, vz0, vz1, vy0, vx0, ↓reduceIte, Nat.reduceBEq, Nat.reduceEqDiff, Nat.reduceLT, Nat.reduceLeDiff, Nat.reduceAdd, Nat.reduceMul, Nat.reduceSub, reduceCtorEq, Int.reduceToNat] <;> (repeat' first | rfl | apply And.intro))
            exact viEq (by rw [sm, if_neg (by simp [*])]; omega)
        · refine fin_mk (viEq ?_)
          rw [← fw_cn hv.nxt (by omega), hNN, show N = i by omega, show n = k by omega]
set_option maxRecDepth 10000 in
set_option maxHeartbeats 4000000 in
theorem tmany_err (m : Dm.Machine) (hm : m.ok) (n : Int) (hc : ¬ tlc m n = 0) : Dm.Spec Try.prog 29 [.ag (macD m), iv .i64 n] (· = .tu [iv .i64 0, iv .i64 (tlc m n)]) := by
  refine spec_of_vc mixed Try.func29 c29 (by rw [show Try.f29.ntmps = _ from Try.ntmps29]; simp) ?_
  unfold m29 r29
  repeat' first | (refine Br.dec (fun h => ?_) (fun h => ?_) <;> try (exfalso; omega)) | (refine Br.eqi (fun h => ?_) (fun h => ?_) <;> try (exfalso; omega)) | (simp (disch := (first | omega | (simp only [vlen]; first | done | omega))) only [↓va0, ↓va1, ↓va2, ↓va3, vb0, vb1, vb2, vb3, vb4, vb5, vb6, vb7, vb8, vb9, vb10, vz0, vz1, vy0, vx0, ↓reduceIte, Nat.reduceBEq, Nat.reduceEqDiff, Nat.reduceLT, Nat.reduceLeDiff, Nat.reduceAdd, Nat.reduceMul, Nat.reduceSub, reduceCtorEq, Int.reduceToNat]) | (refine Br.mk (fun h => ?_) (fun h => ?_)) | (refine BrN.mk (fun h => ?_) ?_) | (refine AltVC.mk ?_ ?_)
  refine CallVC.eq (tcheck_spec m hm n) ?_
  repeat' first | (refine Br.dec (fun h => ?_) (fun h => ?_) <;> try (exfalso; omega)) | (refine Br.eqi (fun h => ?_) (fun h => ?_) <;> try (exfalso; omega)) | (simp (disch := (first | omega | (simp only [vlen]; first | done | omega))) only [↓va0, ↓va1, ↓va2, ↓va3, vb0, vb1, vb2, vb3, vb4, vb5, vb6, vb7, vb8, vb9, vb10, vz0, vz1, vy0, vx0, ↓reduceIte, Nat.reduceBEq, Nat.reduceEqDiff, Nat.reduceLT, Nat.reduceLeDiff, Nat.reduceAdd, Nat.reduceMul, Nat.reduceSub, reduceCtorEq, Int.reduceToNat]) | (refine Br.mk (fun h => ?_) (fun h => ?_)) | (refine BrN.mk (fun h => ?_) ?_) | (refine AltVC.mk ?_ ?_)
  exact fin_mk rfl
set_option maxRecDepth 10000 in
set_option maxHeartbeats 4000000 in
theorem tallyManies_spec (m : Dm.Machine) (hm : m.ok) (n : Int) (hn : ok64 n) : Dm.Spec Try.prog 8 [.ag (macD m), iv .i64 n] (· = .v (.bool true)) := by
  refine spec_of_vc mixed Try.func8 c8 (by rw [show Try.f8.ntmps = _ from Try.ntmps8]; simp) ?_
  unfold m8 r8
  by_cases hc : tlc m n = 0
  · have hcc : mcode m = 0 := by
      unfold tlc at hc
      split at hc
      · assumption
      · exact hc
    have hv := vm_of hm.2.2.2.2.1 hcc
    have hst := hv.start
    have h12 : 0 ≤ n ∧ n ≤ 12 := by
      rw [tlc, if_pos hcc] at hc
      split at hc
      · omega
      · omega
    obtain ⟨N, hmn⟩ : ∃ N : Nat, m.n = N := ⟨m.n.toNat, by omega⟩
    obtain ⟨a, hma⟩ : ∃ a : Nat, m.start = a := ⟨m.start.toNat, by omega⟩
    obtain ⟨n, rfl⟩ : ∃ k : Nat, n = k := ⟨n.toNat, by omega⟩
    repeat' first | (refine Br.dec (fun h => ?_) (fun h => ?_) <;> try (exfalso; omega)) | (refine Br.eqi (fun h => ?_) (fun h => ?_) <;> try (exfalso; omega)) | (simp (disch := (first | omega | (simp only [vlen]; first | done | omega))) only [↓va0, ↓va1, ↓va2, ↓va3, vb0, vb1, vb2, vb3, vb4, vb5, vb6, vb7, vb8, vb9, vb10, vz0, vz1, vy0, vx0, ↓reduceIte, Nat.reduceBEq, Nat.reduceEqDiff, Nat.reduceLT, Nat.reduceLeDiff, Nat.reduceAdd, Nat.reduceMul, Nat.reduceSub, reduceCtorEq, Int.reduceToNat]) | (refine Br.mk (fun h => ?_) (fun h => ?_)) | (refine BrN.mk (fun h => ?_) ?_) | (refine AltVC.mk ?_ ?_)
    refine CallVC.eq (tmany_spec m hm hcc n (by omega)) ?_
    repeat' first | (refine Br.dec (fun h => ?_) (fun h => ?_) <;> try (exfalso; omega)) | (refine Br.eqi (fun h => ?_) (fun h => ?_) <;> try (exfalso; omega)) | (simp (disch := (first | omega | (simp only [vlen]; first | done | omega))) only [↓va0, ↓va1, ↓va2, ↓va3, vb0, vb1, vb2, vb3, vb4, vb5, vb6, vb7, vb8, vb9, vb10, vz0, vz1, vy0, vx0, ↓reduceIte, Nat.reduceBEq, Nat.reduceEqDiff, Nat.reduceLT, Nat.reduceLeDiff, Nat.reduceAdd, Nat.reduceMul, Nat.reduceSub, reduceCtorEq, Int.reduceToNat]) | (refine Br.mk (fun h => ?_) (fun h => ?_)) | (refine BrN.mk (fun h => ?_) ?_) | (refine AltVC.mk ?_ ?_)
    refine CallVC.eq (tallyCode_spec m hm n) ?_
    rw [hc]
    repeat' first | (refine Br.dec (fun h => ?_) (fun h => ?_) <;> try (exfalso; omega)) | (refine Br.eqi (fun h => ?_) (fun h => ?_) <;> try (exfalso; omega)) | (simp (disch := (first | omega | (simp only [vlen]; first | done | omega))) only [↓va0, ↓va1, ↓va2, ↓va3, vb0, vb1, vb2, vb3, vb4, vb5, vb6, vb7, vb8, vb9, vb10, vz0, vz1, vy0, vx0, ↓reduceIte, Nat.reduceBEq, Nat.reduceEqDiff, Nat.reduceLT, Nat.reduceLeDiff, Nat.reduceAdd, Nat.reduceMul, Nat.reduceSub, reduceCtorEq, Int.reduceToNat]) | (refine Br.mk (fun h => ?_) (fun h => ?_)) | (refine BrN.mk (fun h => ?_) ?_) | (refine AltVC.mk ?_ ?_)
    have hR := refMany_spec m N hmn hm.2.2.2.2 hv a (by omega) n (by omega)
    rw [← hmn, ← hma] at hR
    refine CallVC.eq hR ?_
    repeat' first | (refine Br.dec (fun h => ?_) (fun h => ?_) <;> try (exfalso; omega)) | (refine Br.eqi (fun h => ?_) (fun h => ?_) <;> try (exfalso; omega)) | (simp (disch := (first | omega | (simp only [vlen]; first | done | omega))) only [↓va0, ↓va1, ↓va2, ↓va3, vb0, vb1, vb2, vb3, vb4, vb5, vb6, vb7, vb8, vb9, vb10, vz0, vz1, vy0, vx0, ↓reduceIte, Nat.reduceBEq, Nat.reduceEqDiff, Nat.reduceLT, Nat.reduceLeDiff, Nat.reduceAdd, Nat.reduceMul, Nat.reduceSub, reduceCtorEq, Int.reduceToNat]) | (refine Br.mk (fun h => ?_) (fun h => ?_)) | (refine BrN.mk (fun h => ?_) ?_) | (refine AltVC.mk ?_ ?_)
    exact fin_mk (vbEq (by rw [show m.start.toNat = a by omega]; simp))
  · repeat' first | (refine Br.dec (fun h => ?_) (fun h => ?_) <;> try (exfalso; omega)) | (refine Br.eqi (fun h => ?_) (fun h => ?_) <;> try (exfalso; omega)) | (simp (disch := (first | omega | (simp only [vlen]; first | done | omega))) only [↓va0, ↓va1, ↓va2, ↓va3, vb0, vb1, vb2, vb3, vb4, vb5, vb6, vb7, vb8, vb9, vb10, vz0, vz1, vy0, vx0, ↓reduceIte, Nat.reduceBEq, Nat.reduceEqDiff, Nat.reduceLT, Nat.reduceLeDiff, Nat.reduceAdd, Nat.reduceMul, Nat.reduceSub, reduceCtorEq, Int.reduceToNat]) | (refine Br.mk (fun h => ?_) (fun h => ?_)) | (refine BrN.mk (fun h => ?_) ?_) | (refine AltVC.mk ?_ ?_)
    refine CallVC.eq (tmany_err m hm n hc) ?_
    repeat' first | (refine Br.dec (fun h => ?_) (fun h => ?_) <;> try (exfalso; omega)) | (refine Br.eqi (fun h => ?_) (fun h => ?_) <;> try (exfalso; omega)) | (simp (disch := (first | omega | (simp only [vlen]; first | done | omega))) only [↓va0, ↓va1, ↓va2, ↓va3, vb0, vb1, vb2, vb3, vb4, vb5, vb6, vb7, vb8, vb9, vb10, vz0, vz1, vy0, vx0, ↓reduceIte, Nat.reduceBEq, Nat.reduceEqDiff, Nat.reduceLT, Nat.reduceLeDiff, Nat.reduceAdd, Nat.reduceMul, Nat.reduceSub, reduceCtorEq, Int.reduceToNat]) | (refine Br.mk (fun h => ?_) (fun h => ?_)) | (refine BrN.mk (fun h => ?_) ?_) | (refine AltVC.mk ?_ ?_)
    refine CallVC.eq (tallyCode_spec m hm n) ?_
    repeat' first | (refine Br.dec (fun h => ?_) (fun h => ?_) <;> try (exfalso; omega)) | (refine Br.eqi (fun h => ?_) (fun h => ?_) <;> try (exfalso; omega)) | (simp (disch := (first | omega | (simp only [vlen]; first | done | omega))) only [↓va0, ↓va1, ↓va2, ↓va3, vb0, vb1, vb2, vb3, vb4, vb5, vb6, vb7, vb8, vb9, vb10, vz0, vz1, vy0, vx0, ↓reduceIte, Nat.reduceBEq, Nat.reduceEqDiff, Nat.reduceLT, Nat.reduceLeDiff, Nat.reduceAdd, Nat.reduceMul, Nat.reduceSub, reduceCtorEq, Int.reduceToNat]) | (refine Br.mk (fun h => ?_) (fun h => ?_)) | (refine BrN.mk (fun h => ?_) ?_) | (refine AltVC.mk ?_ ?_)
    exact fin_mk rfl
end Go.Proofs.Ytgdmapheppkahaa
