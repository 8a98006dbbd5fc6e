/-
  coppicerref.Comes; the law GrammarComes.
-/
import Derived.Test.YtplkkacfjepgpaaComes
set_option linter.unusedVariables false
set_option linter.unusedSimpArgs false
set_option linter.unnecessarySimpa false
namespace Go.Proofs.Ytplkkacfjepgpaa
open Go.Dm
theorem nodup_len : ∀ (n : Nat) (l : List Nat), l.Nodup → (∀ x, x ∈ l → x < n) → l.length ≤ n
  | 0, l, _, h => by
    cases l with
    | nil => simp
    | cons x l => have := h x (by simp); omega
  | n + 1, l, hd, h => by
    by_cases e : n ∈ l
    · have := nodup_len n (l.erase n) (hd.erase n) fun x hx => by
        have h1 := (hd.mem_erase_iff).1 hx
        have := h x h1.2
        have := h1.1
        omega
      rw [List.length_erase_of_mem e] at this
      omega
    · have := nodup_len n l hd fun x hx => by
        have h1 := h x hx
        have : x ≠ n := fun h => e (h ▸ hx)
        omega
      omega
def bitsL (l : List Int) : Nat := l.foldl (fun S y => S ||| 2 ^ y.toNat) 0
theorem bitsL_app {l : List Int} {y : Int} : bitsL (l ++ [y]) = bitsL l ||| 2 ^ y.toNat := by simp [bitsL]
theorem bitsL_bit {x : Nat} {l : List Int} : (bitsL l).testBit x = true ↔ ∃ y, y ∈ l ∧ y.toNat = x := by
  have : ∀ n, ((bitsL (l.take n)).testBit x = true ↔ ∃ y, y ∈ l.take n ∧ y.toNat = x) := by
    intro n
    induction n with
    | zero => simp [bitsL]
    | succ n ih =>
      by_cases h : n < l.length
      · rw [take_succ_getD h 0, bitsL_app, or_bit, Bool.or_eq_true, ih, decide_eq_true_eq]
        constructor
        · rintro (⟨y, h1, h2⟩ | h1)
          · exact ⟨y, by simp [h1], h2⟩
          · exact ⟨_, by simp, h1.symm⟩
        · rintro ⟨y, h1, h2⟩
          rcases List.mem_append.1 h1 with h1 | h1
          · exact .inl ⟨y, h1, h2⟩
          · rw [List.mem_singleton] at h1; rw [h1] at h2; exact .inr h2.symm
      · rw [List.take_of_length_le (by omega)] at ih ⊢
        exact ih
  have := this l.length
  rwa [List.take_length] at this
theorem bitsL_lt {n : Nat} {l : List Int} (h : ∀ y, y ∈ l → y.toNat < n) : bitsL l < 2 ^ n := by
  have : ∀ k, bitsL (l.take k) < 2 ^ n := by
    intro k
    induction k with
    | zero => exact Nat.pow_pos (by omega)
    | succ k ih =>
      by_cases hk : k < l.length
      · rw [take_succ_getD hk 0, bitsL_app]
        exact or_two_lt ih (h _ (getD_mem' hk))
      · rw [List.take_of_length_le (by omega)] at ih ⊢
        exact ih
  have := this l.length
  rwa [List.take_length] at this
structure Found (g : Grammar) (L : List Int) : Prop where
  nodup : L.Nodup
  mem : ∀ y, y ∈ L → (0 ≤ y ∧ y < g.n) ∧ Rch g y.toNat
  start : g.start ∈ L
theorem found_len {g : Grammar} {L : List Int} (h : Found g L) : L.length ≤ g.n.toNat := by
  have := nodup_len g.n.toNat (L.map Int.toNat) ?_ ?_
  · rwa [List.length_map] at this
  · refine List.pairwise_map.2 (h.nodup.imp_of_mem fun {a b} ha hb hne e => ?_)
    have h1 := (h.mem a ha).1
    have h2 := (h.mem b hb).1
    exact hne (by omega)
  · intro x hx
    obtain ⟨y, hy, rfl⟩ := List.mem_map.1 hx
    have := (h.mem y hy).1
    omega
theorem found_app {g : Grammar} {L : List Int} {y : Int} (h : Found g L) (hy : y ∉ L) (h1 : 0 ≤ y ∧ y < g.n) (h2 : Rch g y.toNat) : Found g (L ++ [y]) := by
  refine ⟨?_, fun z hz => ?_, by simp [h.start]⟩
  · rw [List.nodup_append]
    exact ⟨h.nodup, by simp, fun a ha b hb => by rw [List.mem_singleton] at hb; subst hb; exact fun e => hy (e ▸ ha)⟩
  · rcases List.mem_append.1 hz with hz | hz
    · exact h.mem z hz
    · rw [List.mem_singleton] at hz; subst hz; exact ⟨h1, h2⟩
def Done (g : Grammar) (L : List Int) (k : Nat) : Prop := ∀ a, a < k → ∀ r, r ∈ g.rules → r.left = L.getD a 0 → ∀ s, s ∈ r.right → g.k ≤ s → s - g.k ∈ L
def DoneR (g : Grammar) (L : List Int) (c : Int) (r : Rule) (q : Nat) : Prop := r.left = c → ∀ p, p < q → g.k ≤ r.right.getD p 0 → r.right.getD p 0 - g.k ∈ L
theorem getD_app {L : List Int} {y : Int} {a : Nat} (h : a < L.length) : (L ++ [y]).getD a 0 = L.getD a 0 := by simp [List.getD, List.getElem?_append_left h]
theorem done_app {g : Grammar} {L : List Int} {y : Int} {k : Nat} (hk : k ≤ L.length) (h : Done g L k) : Done g (L ++ [y]) k := fun a ha r hr hl s hs hks => by
  rw [getD_app (by omega)] at hl
  exact List.mem_append_left _ (h a ha r hr hl s hs hks)
theorem doneR_app {g : Grammar} {L : List Int} {y c : Int} {r : Rule} {q : Nat} (h : DoneR g L c r q) : DoneR g (L ++ [y]) c r q := fun hl p hp hk => List.mem_append_left _ (h hl p hp hk)
theorem doneR_succ {g : Grammar} {L : List Int} {c : Int} {r : Rule} {q : Nat} (h : DoneR g L c r q) (hq : r.left = c → g.k ≤ r.right.getD q 0 → r.right.getD q 0 - g.k ∈ L) : DoneR g L c r (q + 1) := fun hl p hp hk => by
  by_cases e : p = q
  · subst e; exact hq hl hk
  · exact h hl p (by omega) hk
set_option maxRecDepth 10000 in
set_option maxHeartbeats 4000000 in
theorem hasL_spec (l : List Int) (hl : l.length ≤ 1000000) (x : Int) : Dm.Spec Try.prog 40 [.sl 1 (i64s l), iv .i64 x] (· = .v (.bool (decide (x ∈ l)))) := by
  refine spec_of_vc mixed Try.func40 c40 (by rw [show Try.f40.ntmps = _ from Try.ntmps40]; simp) ?_
  unfold m40 r40
  repeat' first | ((first | refine Br.dec ?_ ?_ | refine Br.eqi ?_ ?_) <;> intro h <;> try (exfalso; omega)) | (simp (disch := (first | omega | (simp only [vlen]; first | done | omega))) only [↓vAq, vBq, ↓reduceIte, Nat.reduceBEq, Nat.reduceEqDiff, Nat.reduceLT, Nat.reduceLeDiff, Nat.reduceAdd, Nat.reduceMul, Nat.reduceSub, reduceCtorEq, Int.reduceToNat]) | (refine Br.mk ?_ ?_ <;> intro h) | (refine BrN.mk (fun h => ?_) ?_) | (refine AltVC.mk ?_ ?_)
  refine LoopVC.mk (X := Nat) (fun i => [(9, iv .i64 i)]) (fun _ => []) (fun i => l.length - i) (fun i => i ≤ l.length ∧ x ∉ l.take i) 0 ⟨by omega, by simp⟩ ?_ ?_
  · (simp (disch := (first | omega | (simp only [vlen]; first | done | omega))) only [Fits_u, Fits_m, Fits_nil, List.length_append, ↓vAq, vBq, ↓reduceIte, Nat.reduceBEq, Nat.reduceEqDiff, Nat.reduceLT, Nat.reduceLeDiff, Nat.reduceAdd, Nat.reduceMul, Nat.reduceSub, reduceCtorEq, Int.reduceToNat] <;> (repeat' first | rfl | apply And.intro))
  · rintro i ⟨h1, h2⟩
    repeat' first | ((first | refine Br.dec ?_ ?_ | refine Br.eqi ?_ ?_) <;> intro h <;> try (exfalso; omega)) | (simp (disch := (first | omega | (simp only [vlen]; first | done | omega))) only [↓vAq, vBq, ↓reduceIte, Nat.reduceBEq, Nat.reduceEqDiff, Nat.reduceLT, Nat.reduceLeDiff, Nat.reduceAdd, Nat.reduceMul, Nat.reduceSub, reduceCtorEq, Int.reduceToNat]) | (refine Br.mk ?_ ?_ <;> intro h) | (refine BrN.mk (fun h => ?_) ?_) | (refine AltVC.mk ?_ ?_)
    · refine fin_mk (vbEq (decide_eq_true ?_).symm)
      rename_i e
      have e2 : x = l.getD i 0 := by assumption
      rw [e2]; exact getD_mem' (by omega)
    · refine loopK.mk (i + 1) (by simp (disch := (first | omega | (simp only [vlen]; first | done | omega))) only [↓vAq, vBq, ↓reduceIte, Nat.reduceBEq, Nat.reduceEqDiff, Nat.reduceLT, Nat.reduceLeDiff, Nat.reduceAdd, Nat.reduceMul, Nat.reduceSub, reduceCtorEq, Int.reduceToNat]) ⟨by omega, ?_⟩ (by omega) (by (simp (disch := (first | omega | (simp only [vlen]; first | done | omega))) only [Fits_u, Fits_m, Fits_nil, List.length_append, ↓vAq, vBq, ↓reduceIte, Nat.reduceBEq, Nat.reduceEqDiff, Nat.reduceLT, Nat.reduceLeDiff, Nat.reduceAdd, Nat.reduceMul, Nat.reduceSub, reduceCtorEq, Int.reduceToNat] <;> (repeat' first | rfl | apply And.intro)))
      rw [take_succ_getD (by omega) 0, List.mem_append, List.mem_singleton]
      rintro (h | h)
      · exact h2 h
      · contradiction
    · refine fin_mk (vbEq (decide_eq_false ?_).symm)
      rw [show i = l.length by omega, List.take_length] at h2
      exact h2
set_option maxRecDepth 10000 in
set_option maxHeartbeats 4000000 in
theorem refComes_spec (g : Grammar) (hv : Valid g) : Dm.Spec Try.prog 41 [.ag (graD g)] (· = iv .u32 (comeSet g)) := by
  refine spec_of_vc mixed Try.func41 c41 (by rw [show Try.f41.ntmps = _ from Try.ntmps41]; simp) ?_
  unfold m41 r41
  have hk := hv.k
  have hn := hv.n
  have hst := hv.start
  have hlen := hv.len
  repeat' first | ((first | refine Br.dec ?_ ?_ | refine Br.eqi ?_ ?_) <;> intro h <;> try (exfalso; omega)) | (simp (disch := (first | omega | (simp only [vlen]; first | done | omega))) only [↓vAq, vBq, ↓reduceIte, Nat.reduceBEq, Nat.reduceEqDiff, Nat.reduceLT, Nat.reduceLeDiff, Nat.reduceAdd, Nat.reduceMul, Nat.reduceSub, reduceCtorEq, Int.reduceToNat]) | (refine Br.mk ?_ ?_ <;> intro h) | (refine BrN.mk (fun h => ?_) ?_) | (refine AltVC.mk ?_ ?_)
  refine LoopVC.mk (X := List Int × Nat) (fun x => [(3, .ref 1 1 0 x.1.length), (4, iv .i64 x.2)]) (fun x => [(0, gOb g), (1, ⟨1, i64s x.1, true, false, .arr⟩)]) (fun x => 6 - x.2) (fun x => x.2 ≤ x.1.length ∧ Found g x.1 ∧ Done g x.1 x.2) ([g.start], 0) ⟨by simp, ⟨by simp, fun y hy => by rw [List.mem_singleton] at hy; subst hy; exact ⟨hst, .start⟩, by simp⟩, fun a ha => by simp at ha⟩ ?_ ?_
  · (simp (disch := (first | omega | (simp only [vlen]; first | done | omega))) only [Fits_u, Fits_m, Fits_nil, List.length_append, ↓vAq, vBq, ↓reduceIte, Nat.reduceBEq, Nat.reduceEqDiff, Nat.reduceLT, Nat.reduceLeDiff, Nat.reduceAdd, Nat.reduceMul, Nat.reduceSub, reduceCtorEq, Int.reduceToNat] <;> (repeat' first | rfl | apply And.intro))
  · rintro ⟨L, k⟩ ⟨h1, h2, h3⟩
    simp only at h1 h2 h3
    have hl := found_len h2
    repeat' first | ((first | refine Br.dec ?_ ?_ | refine Br.eqi ?_ ?_) <;> intro h <;> try (exfalso; omega)) | (simp (disch := (first | omega | (simp only [vlen]; first | done | omega))) only [↓vAq, vBq, ↓reduceIte, Nat.reduceBEq, Nat.reduceEqDiff, Nat.reduceLT, Nat.reduceLeDiff, Nat.reduceAdd, Nat.reduceMul, Nat.reduceSub, reduceCtorEq, Int.reduceToNat]) | (refine Br.mk ?_ ?_ <;> intro h) | (refine BrN.mk (fun h => ?_) ?_) | (refine AltVC.mk ?_ ?_)
    · refine LoopVC.mk (X := List Int × Nat) (fun x => [(3, .ref 1 1 0 x.1.length), (24, iv .i64 x.2)]) (fun x => [(0, gOb g), (1, ⟨1, i64s x.1, true, false, .arr⟩)]) (fun x => g.rules.length - x.2) (fun x => x.2 ≤ g.rules.length ∧ k < x.1.length ∧ Found g x.1 ∧ Done g x.1 k ∧ ∀ j, j < x.2 → DoneR g x.1 (x.1.getD k 0) (g.rules.getD j default) (g.rules.getD j default).right.length) (L, 0) ⟨by simp, by simp only; omega, h2, h3, fun j hj => by simp at hj⟩ ?_ ?_
      · (simp (disch := (first | omega | (simp only [vlen]; first | done | omega))) only [Fits_u, Fits_m, Fits_nil, List.length_append, ↓vAq, vBq, ↓reduceIte, Nat.reduceBEq, Nat.reduceEqDiff, Nat.reduceLT, Nat.reduceLeDiff, Nat.reduceAdd, Nat.reduceMul, Nat.reduceSub, reduceCtorEq, Int.reduceToNat] <;> (repeat' first | rfl | apply And.intro))
      · rintro ⟨L2, j⟩ ⟨k1, k2, k3, k4, k5⟩
        simp only at k1 k2 k3 k4 k5
        repeat' first | ((first | refine Br.dec ?_ ?_ | refine Br.eqi ?_ ?_) <;> intro h <;> try (exfalso; omega)) | (simp (disch := (first | omega | (simp only [vlen]; first | done | omega))) only [↓vAq, vBq, ↓reduceIte, Nat.reduceBEq, Nat.reduceEqDiff, Nat.reduceLT, Nat.reduceLeDiff, Nat.reduceAdd, Nat.reduceMul, Nat.reduceSub, reduceCtorEq, Int.reduceToNat]) | (refine Br.mk ?_ ?_ <;> intro h) | (refine BrN.mk (fun h => ?_) ?_) | (refine AltVC.mk ?_ ?_)
        · have hm : g.rules.getD j default ∈ g.rules := getD_mem' (by omega)
          have hq := hv.long _ hm
          refine LoopVC.mk (X := List Int × Nat) (fun x => [(3, .ref 1 1 0 x.1.length), (31, iv .i64 x.2)]) (fun x => [(0, gOb g), (1, ⟨1, i64s x.1, true, false, .arr⟩), (2, rOb (g.rules.getD j default))]) (fun x => (g.rules.getD j default).right.length - x.2) (fun x => x.2 ≤ (g.rules.getD j default).right.length ∧ k < x.1.length ∧ Found g x.1 ∧ Done g x.1 k ∧ (∀ i, i < j → DoneR g x.1 (x.1.getD k 0) (g.rules.getD i default) (g.rules.getD i default).right.length) ∧ DoneR g x.1 (x.1.getD k 0) (g.rules.getD j default) x.2) (L2, 0) ⟨by simp, k2, k3, k4, k5, fun _ p hp => by simp at hp⟩ ?_ ?_
          · (simp (disch := (first | omega | (simp only [vlen]; first | done | omega))) only [Fits_u, Fits_m, Fits_nil, List.length_append, ↓vAq, vBq, ↓reduceIte, Nat.reduceBEq, Nat.reduceEqDiff, Nat.reduceLT, Nat.reduceLeDiff, Nat.reduceAdd, Nat.reduceMul, Nat.reduceSub, reduceCtorEq, Int.reduceToNat] <;> (repeat' first | rfl | apply And.intro))
          · rintro ⟨L3, q⟩ ⟨m1, m2, m3, m4, m5, m6⟩
            simp only at m1 m2 m3 m4 m5 m6
            have hl3 := found_len m3
            have hr0 : q < (g.rules.getD j default).right.length → 0 ≤ (g.rules.getD j default).right.getD q 0 ∧ (g.rules.getD j default).right.getD q 0 < g.k + g.n := fun h => hv.right _ hm _ (getD_mem' h)
            repeat' first | ((first | refine Br.dec ?_ ?_ | refine Br.eqi ?_ ?_) <;> intro h <;> try (exfalso; omega)) | (simp (disch := (first | omega | (simp only [vlen]; first | done | omega))) only [↓vAq, vBq, ↓reduceIte, Nat.reduceBEq, Nat.reduceEqDiff, Nat.reduceLT, Nat.reduceLeDiff, Nat.reduceAdd, Nat.reduceMul, Nat.reduceSub, reduceCtorEq, Int.reduceToNat]) | (refine Br.mk ?_ ?_ <;> intro h) | (refine BrN.mk (fun h => ?_) ?_) | (refine AltVC.mk ?_ ?_)
            · have hrb := hr0 (by omega)
              have hcl : (g.rules.getD j default).left = L3.getD k 0 := by assumption
              refine CallVC.eqo (hasL_spec L3 (by omega) _) (by simp (disch := (first | omega | (simp only [vlen]; first | done | omega))) only [↓vAq, vBq, ↓reduceIte, Nat.reduceBEq, Nat.reduceEqDiff, Nat.reduceLT, Nat.reduceLeDiff, Nat.reduceAdd, Nat.reduceMul, Nat.reduceSub, reduceCtorEq, Int.reduceToNat]) ?_
              repeat' first | ((first | refine Br.dec ?_ ?_ | refine Br.eqi ?_ ?_) <;> intro h <;> try (exfalso; omega)) | (simp (disch := (first | omega | (simp only [vlen]; first | done | omega))) only [↓vAq, vBq, ↓reduceIte, Nat.reduceBEq, Nat.reduceEqDiff, Nat.reduceLT, Nat.reduceLeDiff, Nat.reduceAdd, Nat.reduceMul, Nat.reduceSub, reduceCtorEq, Int.reduceToNat]) | (refine Br.mk ?_ ?_ <;> intro h) | (refine BrN.mk (fun h => ?_) ?_) | (refine AltVC.mk ?_ ?_)
              · have hin : (g.rules.getD j default).right.getD q 0 - g.k ∈ L3 := by assumption
                exact loopK.mk (L3, q + 1) (by simp (disch := (first | omega | (simp only [vlen]; first | done | omega))) only [↓vAq, vBq, ↓reduceIte, Nat.reduceBEq, Nat.reduceEqDiff, Nat.reduceLT, Nat.reduceLeDiff, Nat.reduceAdd, Nat.reduceMul, Nat.reduceSub, reduceCtorEq, Int.reduceToNat]) ⟨by simp only; omega, m2, m3, m4, m5, doneR_succ m6 fun _ _ => hin⟩ (by simp only; omega) (by (simp (disch := (first | omega | (simp only [vlen]; first | done | omega))) only [Fits_u, Fits_m, Fits_nil, List.length_append, ↓vAq, vBq, ↓reduceIte, Nat.reduceBEq, Nat.reduceEqDiff, Nat.reduceLT, Nat.reduceLeDiff, Nat.reduceAdd, Nat.reduceMul, Nat.reduceSub, reduceCtorEq, Int.reduceToNat] <;> (repeat' first | rfl | apply And.intro)))
              · have hin : (g.rules.getD j default).right.getD q 0 - g.k ∉ L3 := by assumption
                have hmem : L3.getD k 0 ∈ L3 := getD_mem' m2
                have hrch : Rch g ((g.rules.getD j default).right.getD q 0 - g.k).toNat := .step hm (by rw [hcl]; exact (m3.mem _ hmem).2) (getD_mem' (i := q) (by omega)) (by assumption)
                refine loopK.mk (L3 ++ [(g.rules.getD j default).right.getD q 0 - g.k], q + 1) (by simp (disch := (first | omega | (simp only [vlen]; first | done | omega))) only [↓vAq, vBq, ↓reduceIte, Nat.reduceBEq, Nat.reduceEqDiff, Nat.reduceLT, Nat.reduceLeDiff, Nat.reduceAdd, Nat.reduceMul, Nat.reduceSub, reduceCtorEq, Int.reduceToNat]) ⟨by simp only; omega, by simp; omega, found_app m3 hin (by omega) hrch, done_app (by omega) m4, fun i hi => ?_, ?_⟩ (by simp only; omega) ?_
                · simp only
                  rw [getD_app m2]
                  exact doneR_app (m5 i hi)
                · simp only
                  rw [getD_app m2]
                  exact doneR_succ (doneR_app m6) fun _ _ => by simp
                · (simp (disch := (first | omega | (simp only [vlen]; first | done | omega))) only [Fits_u, Fits_m, Fits_nil, List.length_append, ↓vAq, vBq, ↓reduceIte, Nat.reduceBEq, Nat.reduceEqDiff, Nat.reduceLT, Nat.reduceLeDiff, Nat.reduceAdd, Nat.reduceMul, Nat.reduceSub, reduceCtorEq, Int.reduceToNat] <;> (repeat' first | rfl | apply And.intro))
            · exact loopK.mk (L3, q + 1) (by simp (disch := (first | omega | (simp only [vlen]; first | done | omega))) only [↓vAq, vBq, ↓reduceIte, Nat.reduceBEq, Nat.reduceEqDiff, Nat.reduceLT, Nat.reduceLeDiff, Nat.reduceAdd, Nat.reduceMul, Nat.reduceSub, reduceCtorEq, Int.reduceToNat]) ⟨by simp only; omega, m2, m3, m4, m5, doneR_succ m6 fun _ h => absurd h (by assumption)⟩ (by simp only; omega) (by (simp (disch := (first | omega | (simp only [vlen]; first | done | omega))) only [Fits_u, Fits_m, Fits_nil, List.length_append, ↓vAq, vBq, ↓reduceIte, Nat.reduceBEq, Nat.reduceEqDiff, Nat.reduceLT, Nat.reduceLeDiff, Nat.reduceAdd, Nat.reduceMul, Nat.reduceSub, reduceCtorEq, Int.reduceToNat] <;> (repeat' first | rfl | apply And.intro)))
            · exact loopK.mk (L3, q + 1) (by simp (disch := (first | omega | (simp only [vlen]; first | done | omega))) only [↓vAq, vBq, ↓reduceIte, Nat.reduceBEq, Nat.reduceEqDiff, Nat.reduceLT, Nat.reduceLeDiff, Nat.reduceAdd, Nat.reduceMul, Nat.reduceSub, reduceCtorEq, Int.reduceToNat]) ⟨by simp only; omega, m2, m3, m4, m5, doneR_succ m6 fun h _ => absurd h (by assumption)⟩ (by simp only; omega) (by (simp (disch := (first | omega | (simp only [vlen]; first | done | omega))) only [Fits_u, Fits_m, Fits_nil, List.length_append, ↓vAq, vBq, ↓reduceIte, Nat.reduceBEq, Nat.reduceEqDiff, Nat.reduceLT, Nat.reduceLeDiff, Nat.reduceAdd, Nat.reduceMul, Nat.reduceSub, reduceCtorEq, Int.reduceToNat] <;> (repeat' first | rfl | apply And.intro)))
            · refine loopK.mk (L3, j + 1) (by simp (disch := (first | omega | (simp only [vlen]; first | done | omega))) only [↓vAq, vBq, ↓reduceIte, Nat.reduceBEq, Nat.reduceEqDiff, Nat.reduceLT, Nat.reduceLeDiff, Nat.reduceAdd, Nat.reduceMul, Nat.reduceSub, reduceCtorEq, Int.reduceToNat]) ⟨by simp only; omega, m2, m3, m4, fun i hi => ?_⟩ (by simp only; omega) (by (simp (disch := (first | omega | (simp only [vlen]; first | done | omega))) only [Fits_u, Fits_m, Fits_nil, List.length_append, ↓vAq, vBq, ↓reduceIte, Nat.reduceBEq, Nat.reduceEqDiff, Nat.reduceLT, Nat.reduceLeDiff, Nat.reduceAdd, Nat.reduceMul, Nat.reduceSub, reduceCtorEq, Int.reduceToNat] <;> (repeat' first | rfl | apply And.intro)))
              simp only at hi
              by_cases e : i = j
              · subst e; simp only
                rw [show q = (g.rules.getD i default).right.length by omega] at m6
                exact m6
              · exact m5 i (by omega)
        · have hl2 := found_len k3
          refine loopK.mk (L2, k + 1) (by simp (disch := (first | omega | (simp only [vlen]; first | done | omega))) only [↓vAq, vBq, ↓reduceIte, Nat.reduceBEq, Nat.reduceEqDiff, Nat.reduceLT, Nat.reduceLeDiff, Nat.reduceAdd, Nat.reduceMul, Nat.reduceSub, reduceCtorEq, Int.reduceToNat]) ⟨by simp only; omega, k3, fun a ha r hr hle s hs hks => ?_⟩ (by simp only; omega) (by (simp (disch := (first | omega | (simp only [vlen]; first | done | omega))) only [Fits_u, Fits_m, Fits_nil, List.length_append, ↓vAq, vBq, ↓reduceIte, Nat.reduceBEq, Nat.reduceEqDiff, Nat.reduceLT, Nat.reduceLeDiff, Nat.reduceAdd, Nat.reduceMul, Nat.reduceSub, reduceCtorEq, Int.reduceToNat] <;> (repeat' first | rfl | apply And.intro)))
          simp only at ha hle ⊢
          by_cases e : a = k
          · subst e
            obtain ⟨i, hi, ei⟩ := mem_getD hr
            have := k5 i (by omega)
            rw [ei] at this
            obtain ⟨p, hp, ep⟩ := mem_getD hs
            have ep' : r.right.getD p 0 = s := ep
            rw [← ep'] at hks ⊢
            exact this hle p hp hks
          · exact k4 a (by omega) r hr hle s hs hks
    · have hb := bitsL_lt (l := L) (n := g.n.toNat) fun y hy => by have := (h2.mem y hy).1; omega
      have hp : 2 ^ g.n.toNat ≤ 32 := Nat.le_trans (Nat.pow_le_pow_right (show 0 < 2 by omega) (show g.n.toNat ≤ 5 by omega)) (by decide)
      refine LoopVC.mk (X := Nat) (fun i => [(9, iv .u32 (bitsL (L.take i))), (66, .ref 1 1 0 L.length), (68, iv .i64 i)]) (fun x => [(1, ⟨1, i64s L, true, false, .arr⟩)]) (fun i => L.length - i) (fun i => i ≤ L.length) 0 (by omega) ?_ ?_
      · (simp (disch := (first | omega | (simp only [vlen]; first | done | omega))) only [Fits_u, Fits_m, Fits_nil, List.length_append, ↓vAq, vBq, ↓reduceIte, Nat.reduceBEq, Nat.reduceEqDiff, Nat.reduceLT, Nat.reduceLeDiff, Nat.reduceAdd, Nat.reduceMul, Nat.reduceSub, reduceCtorEq, Int.reduceToNat] <;> (repeat' first | rfl | apply And.intro))
      · rintro i hi
        have hy : i < L.length → 0 ≤ L.getD i 0 ∧ L.getD i 0 < g.n := fun h => (h2.mem _ (getD_mem' h)).1
        have hbi := bitsL_lt (l := L.take i) (n := 5) fun y hy => by have := (h2.mem y (List.mem_of_mem_take hy)).1; omega
        repeat' first | ((first | refine Br.dec ?_ ?_ | refine Br.eqi ?_ ?_) <;> intro h <;> try (exfalso; omega)) | (simp (disch := (first | omega | (simp only [vlen]; first | done | omega))) only [↓vAq, vBq, ↓reduceIte, Nat.reduceBEq, Nat.reduceEqDiff, Nat.reduceLT, Nat.reduceLeDiff, Nat.reduceAdd, Nat.reduceMul, Nat.reduceSub, reduceCtorEq, Int.reduceToNat]) | (refine Br.mk ?_ ?_ <;> intro h) | (refine BrN.mk (fun h => ?_) ?_) | (refine AltVC.mk ?_ ?_)
        · have hyi := hy (by omega)
          have hp2 : 2 ^ (L.getD i 0).toNat ≤ 16 := Nat.le_trans (Nat.pow_le_pow_right (show 0 < 2 by omega) (show (L.getD i 0).toNat ≤ 4 by omega)) (by decide)
          have hfalse : (bitsL (L.take i)).testBit (L.getD i 0).toNat = false := by
            cases hb2 : (bitsL (L.take i)).testBit (L.getD i 0).toNat
            · rfl
            · obtain ⟨y, h5, h6⟩ := bitsL_bit.1 hb2
              exfalso
              have h7 := (h2.mem y (List.mem_of_mem_take h5)).1
              have h8 : y = L.getD i 0 := by omega
              have hnd := h2.nodup
              rw [← List.take_append_drop i L, List.nodup_append] at hnd
              refine hnd.2.2 y h5 y ?_ rfl
              have hd : L.drop i = L.getD i 0 :: L.drop (i + 1) := by
                rw [List.drop_eq_getElem_cons (by omega)]; simp [List.getD, show i < L.length by omega]
              rw [h8, hd]
              exact List.mem_cons_self
          have hadd := add_or _ hbi _ (show (L.getD i 0).toNat < 5 by omega) hfalse
          rw [shlN (by omega), wrapu32_id (by omega)]
          refine loopK.mk (i + 1) (by simp (disch := (first | omega | (simp only [vlen]; first | done | omega))) only [↓vAq, vBq, ↓reduceIte, Nat.reduceBEq, Nat.reduceEqDiff, Nat.reduceLT, Nat.reduceLeDiff, Nat.reduceAdd, Nat.reduceMul, Nat.reduceSub, reduceCtorEq, Int.reduceToNat]) (by omega) (by omega) ?_
          (simp (disch := (first | omega | (simp only [vlen]; first | done | omega))) only [Fits_u, Fits_m, Fits_nil, List.length_append, ↓vAq, vBq, ↓reduceIte, Nat.reduceBEq, Nat.reduceEqDiff, Nat.reduceLT, Nat.reduceLeDiff, Nat.reduceAdd, Nat.reduceMul, Nat.reduceSub, reduceCtorEq, Int.reduceToNat] <;> (repeat' first | rfl | apply And.intro))
          refine viEq ?_
          rw [take_succ_getD (by omega) 0, bitsL_app, ← hadd]
          omega
        · refine fin_mk ?_
          have e : k = L.length := by omega
          subst e
          have hS : bitsL L = comeSet g := come_is hv hb (fun x hx => ?_) (bitsL_bit.2 ⟨_, h2.start, rfl⟩) (fun r hr hbt s hs hks => ?_)
          · rw [hS]
          · obtain ⟨y, h5, rfl⟩ := bitsL_bit.1 hx
            exact (h2.mem y h5).2
          · obtain ⟨y, h5, h6⟩ := bitsL_bit.1 hbt
            have h7 := (h2.mem y h5).1
            have h8 := hv.left r hr
            obtain ⟨a, ha, ea⟩ := mem_getD h5
            have ea' : L.getD a 0 = y := ea
            exact bitsL_bit.2 ⟨_, h3 a ha r hr (by rw [ea']; omega) s hs hks, rfl⟩
end Go.Proofs.Ytplkkacfjepgpaa
