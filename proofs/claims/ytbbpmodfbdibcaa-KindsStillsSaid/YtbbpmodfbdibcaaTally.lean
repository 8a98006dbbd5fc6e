/-
  tally: how many words; the laws TallyManies and more.
-/
import Derived.Test.YtbbpmodfbdibcaaMRun
namespace Go.Proofs.Ytbbpmodfbdibcaa
open Go.Dm
set_option linter.unusedSimpArgs false
set_option linter.unnecessarySimpa false
set_option linter.unusedVariables false

def sm (f : Nat → Nat) : Nat → Nat
  | 0 => 0
  | n + 1 => sm f n + f n
theorem sm_congr {f g : Nat → Nat} : ∀ {n : Nat}, (∀ i, i < n → f i = g i) → sm f n = sm g n
  | 0, _ => rfl
  | n + 1, h => by rw [sm, sm, sm_congr (n := n) fun i hi => h i (by omega), h n (by omega)]
theorem sm_le {f : Nat → Nat} {B : Nat} : ∀ {n : Nat}, (∀ i, i < n → f i ≤ B) → sm f n ≤ n * B
  | 0, _ => by simp [sm]
  | n + 1, h => by
    have a := sm_le (n := n) fun i hi => h i (by omega)
    have b := h n (by omega)
    rw [sm, Nat.succ_mul]; omega
theorem sm_mono {f : Nat → Nat} {n : Nat} : ∀ {k : Nat}, n ≤ k → sm f n ≤ sm f k
  | 0, h => by rw [show n = 0 by omega]; exact Nat.le_refl _
  | k + 1, h => by
    by_cases e : n = k + 1
    · rw [e]; exact Nat.le_refl _
    · have := sm_mono (f := f) (n := n) (k := k) (by omega)
      rw [sm]; omega
theorem sm_add {f g : Nat → Nat} : ∀ {n : Nat}, sm (fun i => f i + g i) n = sm f n + sm g n
  | 0 => rfl
  | n + 1 => by rw [sm, sm, sm, sm_add (n := n)]; omega
theorem sm_zero : ∀ {n : Nat}, sm (fun _ => 0) n = 0
  | 0 => rfl
  | n + 1 => by rw [sm, sm_zero (n := n)]
theorem sm_mul {f : Nat → Nat} {c : Nat} : ∀ {n : Nat}, sm (fun i => f i * c) n = sm f n * c
  | 0 => by simp [sm]
  | n + 1 => by rw [sm, sm, sm_mul (n := n), Nat.add_mul]
theorem sm_mull {f : Nat → Nat} {c : Nat} : ∀ {n : Nat}, sm (fun i => c * f i) n = c * sm f n
  | 0 => by simp [sm]
  | n + 1 => by rw [sm, sm, sm_mull (n := n), Nat.mul_add]
theorem sm_comm {f : Nat → Nat → Nat} {k : Nat} : ∀ {n : Nat}, sm (fun i => sm (f i) k) n = sm (fun j => sm (fun i => f i j) n) k
  | 0 => by simp [sm, sm_zero]
  | n + 1 => by rw [sm, sm_comm (n := n), ← sm_add]; rfl
theorem sm_one {f : Nat → Nat} {a : Nat} : ∀ {n : Nat}, sm (fun j => if j = a then f j else 0) n = if a < n then f a else 0
  | 0 => rfl
  | n + 1 => by
    rw [sm, sm_one (n := n)]
    by_cases e : a = n
    · subst e; simp
    · by_cases h : a < n
      · rw [if_pos h, if_neg (fun x => e x.symm), if_pos (by omega)]; omega
      · rw [if_neg h, if_neg (fun x => e x.symm), if_neg (by omega)]

def nxt (m : Dm.Machine) (i s : Nat) : Nat := ((m.next.getD i default).getD s 0).toNat
def fin (m : Dm.Machine) (i : Nat) : Nat := if m.final.toNat.testBit i = true then 1 else 0
/-- How many words of a length are taken from a state. -/
def cn (m : Dm.Machine) : Nat → Nat → Nat
  | 0, i => fin m i
  | k + 1, i => sm (fun s => cn m k (nxt m i s)) m.k.toNat
/-- How many words of a length lead from a state to another one. -/
def fw (m : Dm.Machine) (a : Nat) : Nat → Nat → Nat
  | 0, j => if j = a then 1 else 0
  | k + 1, j => sm (fun i => sm (fun s => if j = nxt m i s then fw m a k i else 0) m.k.toNat) m.n.toNat
theorem cn_le {m : Dm.Machine} (hk : m.k ≤ 3) : ∀ {k i : Nat}, cn m k i ≤ 3 ^ k
  | 0, i => by unfold cn fin; split <;> simp
  | k + 1, i => by
    have h := sm_le (f := fun s => cn m k (nxt m i s)) (n := m.k.toNat) fun s _ => cn_le hk (k := k)
    have h2 : m.k.toNat * 3 ^ k ≤ 3 * 3 ^ k := Nat.mul_le_mul_right _ (by omega)
    rw [cn, Nat.pow_succ]; omega
theorem cn_small {m : Dm.Machine} (hk : m.k ≤ 3) {k i : Nat} (h : k ≤ 12) : cn m k i ≤ 531441 :=
  Nat.le_trans (cn_le hk) (show 3 ^ k ≤ 3 ^ 12 from Nat.pow_le_pow_right (by omega) h)
theorem fw_le {m : Dm.Machine} (hk : m.k ≤ 3) (hn : m.n ≤ 7) {a : Nat} : ∀ {k j : Nat}, fw m a k j ≤ 21 ^ k
  | 0, j => by unfold fw; split <;> simp
  | k + 1, j => by
    have h : ∀ i, i < m.n.toNat → sm (fun s => if j = nxt m i s then fw m a k i else 0) m.k.toNat ≤ 3 * 21 ^ k := fun i _ => by
      have h := sm_le (f := fun s => if j = nxt m i s then fw m a k i else 0) (n := m.k.toNat) (B := 21 ^ k) fun s _ => by
        show (if _ then _ else _) ≤ _
        split
        · exact fw_le hk hn
        · exact Nat.zero_le _
      exact Nat.le_trans h (Nat.mul_le_mul_right _ (by omega))
    have h2 := sm_le h
    have h3 : m.n.toNat * (3 * 21 ^ k) ≤ 7 * (3 * 21 ^ k) := Nat.mul_le_mul_right _ (by omega)
    rw [fw, Nat.pow_succ]; omega
theorem fw_small {m : Dm.Machine} (hk : m.k ≤ 3) (hn : m.n ≤ 7) {a k j : Nat} (h : k ≤ 12) : fw m a k j ≤ 7355827511386641 :=
  Nat.le_trans (fw_le hk hn) (show 21 ^ k ≤ 21 ^ 12 from Nat.pow_le_pow_right (by omega) h)
theorem fw_step {m : Dm.Machine} (hv : ∀ i s, nxt m i s < m.n.toNat) {a k l : Nat} : sm (fun j => fw m a (k + 1) j * cn m l j) m.n.toNat = sm (fun i => fw m a k i * cn m (l + 1) i) m.n.toNat := by
  have e1 : ∀ j, fw m a (k + 1) j * cn m l j = sm (fun i => sm (fun s => if j = nxt m i s then fw m a k i * cn m l j else 0) m.k.toNat) m.n.toNat := fun j => by
    rw [fw, ← sm_mul]
    refine sm_congr fun i _ => ?_
    rw [← sm_mul]
    refine sm_congr fun s _ => ?_
    split <;> simp
  rw [sm_congr fun j _ => e1 j, sm_comm]
  refine sm_congr fun i _ => ?_
  rw [sm_comm, cn, ← sm_mull]
  refine sm_congr fun s _ => ?_
  rw [sm_one (f := fun j => fw m a k i * cn m l j), if_pos (hv i s)]
theorem fw_cn {m : Dm.Machine} (hv : ∀ i s, nxt m i s < m.n.toNat) {a n : Nat} (ha : a < m.n.toNat) : sm (fun i => if m.final.toNat.testBit i = true then fw m a n i else 0) m.n.toNat = cn m n a := by
  have h : ∀ k, k ≤ n → sm (fun j => fw m a k j * cn m (n - k) j) m.n.toNat = cn m n a := by
    intro k
    induction k with
    | zero =>
      intro _
      rw [Nat.sub_zero, sm_congr (g := fun j => if j = a then cn m n j else 0) fun j _ => by unfold fw; split <;> simp, sm_one (f := fun j => cn m n j), if_pos ha]
    | succ k ih =>
      intro hk
      rw [fw_step hv, show n - (k + 1) + 1 = n - k by omega]
      exact ih (by omega)
  rw [← h n (Nat.le_refl _)]
  refine sm_congr fun i _ => ?_
  rw [Nat.sub_self, cn, fin]
  split <;> simp
theorem VM.nxt {m : Dm.Machine} (hv : VM m) (i s : Nat) : nxt m i s < m.n.toNat := by
  have hn := hv.n
  have hlen := hv.len
  unfold Proofs.Ytbbpmodfbdibcaa.nxt
  by_cases h : i < m.next.length
  · have := getD_ok (by omega) (hv.to _ (getD_mem' h)) s
    omega
  · have : (m.next.getD i default).getD s 0 = 0 := by
      rw [show m.next.getD i default = [] by simp [List.getD, show m.next[i]? = none from List.getElem?_eq_none (by omega)]; rfl]; rfl
    omega
theorem has_n (S : Int) (n : Nat) (hS : 0 ≤ S ∧ S ≤ 4294967295) (hn : n ≤ 31) : Dm.Spec Try.prog 53 [iv .u32 S, iv .i64 n] (· = .v (.bool (S.toNat.testBit n))) := by
  have := has_i S n hS (by omega)
  rwa [Int.toNat_natCast] at this
def cnrs (m : Dm.Machine) (N n : Nat) : List (List Int) := (List.range n).map fun k => tab N fun j => (cn m k j : Int)
theorem cnrs_succ {m : Dm.Machine} {N n : Nat} : cnrs m N (n + 1) = cnrs m N n ++ [tab N fun j => (cn m n j : Int)] := by simp [cnrs, List.range_succ]
def tlc (m : Dm.Machine) (n : Int) : Int := if mcode m = 0 then (if n < 0 ∨ 12 < n then 1 else 0) else mcode m
theorem cnrs_get {m : Dm.Machine} {N n k : Nat} (h : k < n) : (cnrs m N n).getD k default = tab N fun j => (cn m k j : Int) := by
  simp [cnrs, List.getD, h]
theorem cnrs_len {m : Dm.Machine} {N n : Nat} : (cnrs m N n).length = n := by simp [cnrs]
theorem bit_n (S : Int) (n : Nat) (hS : 0 ≤ S ∧ S ≤ 4294967295) (hn : n ≤ 31) : Dm.Spec Try.prog 44 [iv .u32 S, iv .i64 n] (· = .v (.bool (S.toNat.testBit n))) := by
  have := bit_i S n hS (by omega)
  rwa [Int.toNat_natCast] at this
theorem fw_small' {m : Dm.Machine} (hk : m.k ≤ 3) (hn : m.n ≤ 7) {a k j : Nat} (h : k ≤ 11) : fw m a k j ≤ 350277500542221 :=
  Nat.le_trans (fw_le hk hn) (show 21 ^ k ≤ 21 ^ 11 from Nat.pow_le_pow_right (by omega) h)
end Go.Proofs.Ytbbpmodfbdibcaa
