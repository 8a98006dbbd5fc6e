/-
  Shortest words first: words as numbers (plain).
-/
import Derived.Test.YtbbpmodfbdibcaaTold
import Derived.Test.YtbbpmodfbdibcaaSets
namespace Go.Proofs.Ytbbpmodfbdibcaa
open Go.Dm
set_option linter.unusedSimpArgs false
set_option linter.unnecessarySimpa false
set_option linter.unusedVariables false
set_option linter.defProp false

def stp (a b : Dm.Machine) (p : Nat × Nat) (s : Nat) : Nat × Nat := (nx a p.1 s, nx b p.2 s)
/-- Where the word of a number leads. -/
def dl (a b : Dm.Machine) (K : Nat) (p0 : Nat × Nat) : Nat → Nat × Nat
  | 0 => p0
  | v + 1 => stp a b (dl a b K p0 (v / K)) (v % K)
termination_by v => v
decreasing_by exact Nat.lt_succ_of_le (Nat.div_le_self _ _)
/-- The word of a number. -/
def wr (K : Nat) : Nat → List Int
  | 0 => []
  | v + 1 => wr K (v / K) ++ [((v % K : Nat) : Int)]
termination_by v => v
decreasing_by exact Nat.lt_succ_of_le (Nat.div_le_self _ _)
def df (a b : Dm.Machine) (p : Nat × Nat) : Bool := bitF a p.1 != bitF b p.2
theorem kid_div {K c s : Nat} (hs : s < K) : (c * K + s) / K = c ∧ (c * K + s) % K = s := ⟨dv hs, md hs⟩
section
variable {a b : Dm.Machine} {K : Nat} {p0 : Nat × Nat}
theorem dl_kid {c s : Nat} (hs : s < K) : dl a b K p0 (c * K + s + 1) = stp a b (dl a b K p0 c) s := by
  rw [dl, (kid_div hs).1, (kid_div hs).2]
theorem wr_kid {c s : Nat} (hs : s < K) : wr K (c * K + s + 1) = wr K c ++ [(s : Int)] := by
  rw [wr, (kid_div hs).1, (kid_div hs).2]
theorem dl_zero : dl a b K p0 0 = p0 := by rw [dl]
theorem wr_zero : wr K 0 = [] := by rw [wr]
theorem kid_ex {v : Nat} (hK : 0 < K) (hv : 0 < v) : ∃ u s, s < K ∧ v = u * K + s + 1 ∧ u < v := by
  refine ⟨(v - 1) / K, (v - 1) % K, Nat.mod_lt _ hK, ?_, ?_⟩
  · have := Nat.div_add_mod (v - 1) K
    rw [Nat.mul_comm] at this
    omega
  · have := Nat.div_le_self (v - 1) K; omega
def Cov (a b : Dm.Machine) (K : Nat) (p0 : Nat × Nat) (Q : List Nat) (v : Nat) : Prop := ∃ c, c ∈ Q ∧ dl a b K p0 c = dl a b K p0 v ∧ c ≤ v
theorem so_mono {Q : List Nat} (h : Q.Pairwise (· < ·)) {i j : Nat} (hij : i < j) (hj : j < Q.length) : Q.getD i 0 < Q.getD j 0 := by
  have := List.pairwise_iff_getElem.mp h i j (by omega) hj hij
  simpa [List.getD, hj, show i < Q.length by omega] using this
theorem so_le {Q : List Nat} (h : Q.Pairwise (· < ·)) {i : Nat} (hi : i < Q.length) {c : Nat} (hc : c ∈ Q) (hn : i + 1 < Q.length → c < Q.getD (i + 1) 0) : c ≤ Q.getD i 0 := by
  obtain ⟨j, hj, e⟩ := List.getElem_of_mem hc
  have e2 : Q.getD j 0 = c := by simp [List.getD, hj, e]
  rcases Nat.lt_trichotomy j i with h1 | h1 | h1
  · have := so_mono h h1 hi; omega
  · subst h1; omega
  · by_cases h2 : j = i + 1
    · subst h2; have := hn hj; omega
    · have h3 := so_mono h (i := i + 1) (j := j) (by omega) hj
      have := hn (by omega); omega
/-- The frontier moves on to the next of the queue. -/
theorem cov_next (hK : 0 < K) {Q : List Nat} (h : Q.Pairwise (· < ·)) {i : Nat} (hi : i < Q.length) (hc : ∀ v, v < Q.getD i 0 * K + K + 1 → Cov a b K p0 Q v) :
    ∀ v, (i + 1 < Q.length → v < Q.getD (i + 1) 0 * K + 1) → Cov a b K p0 Q v := by
  intro v
  induction v using Nat.strongRecOn with
  | _ v ih =>
    intro hv
    by_cases h1 : v < Q.getD i 0 * K + K + 1
    · exact hc v h1
    · obtain ⟨u, t, ht, e, hu⟩ := kid_ex hK (v := v) (by omega)
      have hul : i + 1 < Q.length → u < Q.getD (i + 1) 0 := fun hl => by
        have h2 := hv hl
        rw [e] at h2
        have h3 : u * K < Q.getD (i + 1) 0 * K := by omega
        exact Nat.lt_of_mul_lt_mul_right h3
      obtain ⟨c, hcQ, hcd, hcu⟩ := ih u hu fun hl => by
        have h2 := hul hl
        have := Nat.le_mul_of_pos_right (Q.getD (i + 1) 0) hK
        omega
      have hci := so_le h hi hcQ fun hl => Nat.lt_of_le_of_lt hcu (hul hl)
      have h4 := Nat.mul_le_mul_right K hci
      have h5 := Nat.mul_le_mul_right K hcu
      obtain ⟨c', h6, h7, h8⟩ := hc (c * K + t + 1) (by omega)
      refine ⟨c', h6, ?_, by omega⟩
      rw [h7, dl_kid ht, hcd, e, dl_kid ht]
theorem cov_add {Q : List Nat} {v F : Nat} (h : Cov a b K p0 Q v) : Cov a b K p0 (Q ++ [F]) v := by
  obtain ⟨c, h1, h2⟩ := h
  exact ⟨c, List.mem_append_left _ h1, h2⟩
/-- The least number of which the word tells them apart. -/
def LD (a b : Dm.Machine) (K : Nat) (p0 : Nat × Nat) (v : Nat) : Prop := df a b (dl a b K p0 v) = true ∧ ∀ u, u < v → df a b (dl a b K p0 u) = false
open Classical in
noncomputable def ldo (a b : Dm.Machine) (K : Nat) (p0 : Nat × Nat) : Option Nat := if h : ∃ v, LD a b K p0 v then some (Classical.choose h) else none
theorem ld_uniq {v w : Nat} (h : LD a b K p0 v) (h' : LD a b K p0 w) : v = w := by
  rcases Nat.lt_trichotomy v w with h1 | h1 | h1
  · have := h'.2 v h1; rw [h.1] at this; contradiction
  · exact h1
  · have := h.2 w h1; rw [h'.1] at this; contradiction
theorem ldo_some {v : Nat} (h : LD a b K p0 v) : ldo a b K p0 = some v := by
  unfold ldo
  have he : ∃ v, LD a b K p0 v := ⟨v, h⟩
  rw [dif_pos he]
  exact congrArg some (ld_uniq (Classical.choose_spec he) h)
theorem ldo_none (h : ∀ v, df a b (dl a b K p0 v) = false) : ldo a b K p0 = none := by
  unfold ldo
  rw [dif_neg]
  rintro ⟨v, hv, _⟩
  rw [h v] at hv; contradiction
end
/-- What holds of the queue, before its entry i and with the numbers below F looked at. -/
structure BQ (a b : Dm.Machine) (K : Nat) (p0 : Nat × Nat) (Q : List Nat) (i ml : Nat) : Prop where
  so : Q.Pairwise (· < ·)
  sm : ∀ j, j < i → df a b (dl a b K p0 (Q.getD j 0)) = false
  nd : (Q.map fun c => (dl a b K p0 c).1 * 7 + (dl a b K p0 c).2).Nodup
  ln : ∀ c, c ∈ Q → (wr K c).length ≤ ml
theorem dl_lt {a b : Dm.Machine} (ha : WM a) (hb : WM b) {K N M : Nat} {p0 : Nat × Nat} (hN : a.n = N) (hM : b.n = M) (h0 : p0.1 < N ∧ p0.2 < M) : ∀ v, (dl a b K p0 v).1 < N ∧ (dl a b K p0 v).2 < M := by
  intro v
  induction v using Nat.strongRecOn with
  | _ v ih =>
    cases v with
    | zero => rw [dl_zero]; exact h0
    | succ v =>
      have h1 := ih (v / K) (Nat.lt_succ_of_le (Nat.div_le_self _ _))
      rw [dl]
      have h2 := nx_lt ha (i := (dl a b K p0 (v / K)).1) (v % K) (by omega)
      have h3 := nx_lt hb (i := (dl a b K p0 (v / K)).2) (v % K) (by omega)
      exact ⟨by unfold stp; omega, by unfold stp; omega⟩
theorem BQ.le {a b : Dm.Machine} {K : Nat} {p0 : Nat × Nat} {Q : List Nat} {i ml : Nat} (h : BQ a b K p0 Q i ml) (hl : ∀ v, (dl a b K p0 v).1 < 7 ∧ (dl a b K p0 v).2 < 7) : Q.length ≤ 49 := by
  have := nodup_len 49 _ h.nd fun x hx => by
    obtain ⟨c, _, e⟩ := List.mem_map.mp hx
    have := hl c
    omega
  rwa [List.length_map] at this
theorem BQ.add {a b : Dm.Machine} {K : Nat} {p0 : Nat × Nat} {Q : List Nat} {i ml F : Nat} (h : BQ a b K p0 Q i ml) (hl : ∀ v, (dl a b K p0 v).1 < 7 ∧ (dl a b K p0 v).2 < 7) (hF : ∀ c, c ∈ Q → c < F) (hi : i ≤ Q.length)
    (hn : dl a b K p0 F ∉ Q.map (dl a b K p0)) (hw : (wr K F).length ≤ ml) : BQ a b K p0 (Q ++ [F]) i ml where
  so := List.pairwise_append.mpr ⟨h.so, by simp, fun x hx y hy => by rw [List.mem_singleton.mp hy]; exact hF x hx⟩
  sm := fun j hj => by
    rw [show (Q ++ [F]).getD j 0 = Q.getD j 0 by simp [List.getD, List.getElem?_append_left (show j < Q.length by omega)]]
    exact h.sm j hj
  nd := by
    rw [List.map_append]
    refine List.nodup_append.mpr ⟨h.nd, by simp, fun x hx y hy e => hn ?_⟩
    obtain ⟨c, hc, e1⟩ := List.mem_map.mp hx
    have e2 : y = (dl a b K p0 F).1 * 7 + (dl a b K p0 F).2 := by simpa using hy
    refine List.mem_map.mpr ⟨c, hc, ?_⟩
    have h1 := hl c
    have h2 := hl F
    exact Prod.ext (by omega) (by omega)
  ln := fun c hc => by
    rcases List.mem_append.mp hc with h1 | h1
    · exact h.ln c h1
    · rw [List.mem_singleton.mp h1]; exact hw
end Go.Proofs.Ytbbpmodfbdibcaa
