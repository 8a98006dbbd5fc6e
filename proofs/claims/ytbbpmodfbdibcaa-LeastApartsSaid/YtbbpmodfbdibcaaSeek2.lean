/-
  Two machines in one, and the least word that parts them (plain).
-/
import Derived.Test.YtbbpmodfbdibcaaParting
namespace Go.Proofs.Ytbbpmodfbdibcaa
open Go.Dm
set_option linter.unusedSimpArgs false
set_option linter.unnecessarySimpa false
set_option linter.unusedVariables false
set_option linter.defProp false

def besF (a b : Dm.Machine) : Nat := a.final.toNat ||| (b.final.toNat <<< a.n.toNat)
def besR (a b : Dm.Machine) : List (List Int) := a.next ++ b.next.map fun l => l.map (· + a.n)
def besM (a b : Dm.Machine) : Dm.Machine := ⟨a.n + b.n, a.k, besR a b, a.start, (besF a b : Nat)⟩
theorem besF_lt {a b : Dm.Machine} (ha : VM a) (hb : VM b) : besF a b < 2 ^ 14 := by
  have h1 := ha.final
  have h2 := hb.final
  have h3 := ha.n
  have h4 := hb.n
  have h5 : 2 ^ a.n.toNat ≤ 2 ^ 7 := Nat.pow_le_pow_right (by omega) (by omega)
  have h6 : 2 ^ b.n.toNat ≤ 2 ^ 7 := Nat.pow_le_pow_right (by omega) (by omega)
  unfold besF
  refine Nat.or_lt_two_pow (by omega) ?_
  rw [Nat.shiftLeft_eq]
  have : b.final.toNat * 2 ^ a.n.toNat ≤ 127 * 2 ^ 7 := Nat.mul_le_mul (by omega) h5
  omega
theorem bes_wm {a b : Dm.Machine} (ha : VM a) (hb : VM b) (hk : b.k = a.k) : WM (besM a b) where
  n := by have := ha.n; have := hb.n; show 1 ≤ a.n + b.n ∧ a.n + b.n ≤ 14; omega
  k := ha.k
  len := by
    have := ha.len; have := hb.len
    show ((besR a b).length : Int) = a.n + b.n
    unfold besR
    rw [List.length_append, List.length_map]; omega
  row := fun l hl => by
    rcases List.mem_append.mp hl with h | h
    · exact ha.row l h
    · obtain ⟨r, hr, e⟩ := List.mem_map.mp h
      rw [← e, List.length_map]
      have := hb.row r hr
      show (r.length : Int) = a.k
      omega
  to := fun l hl x hx => by
    have h3 := ha.n
    have h4 := hb.n
    show 0 ≤ x ∧ x < a.n + b.n
    rcases List.mem_append.mp hl with h | h
    · have := ha.to l h x hx; omega
    · obtain ⟨r, hr, e⟩ := List.mem_map.mp h
      rw [← e] at hx
      obtain ⟨y, hy, e2⟩ := List.mem_map.mp hx
      have := hb.to r hr y hy
      omega
  final := by
    have := besF_lt ha hb
    show (0 : Int) ≤ (besF a b : Nat) ∧ ((besF a b : Nat) : Int) ≤ 4294967295
    omega
section
variable {a b : Dm.Machine} {N M K : Nat}
theorem bes_nx1 (hl : a.next.length = N) {i s : Nat} (hi : i < N) : nx (besM a b) i s = nx a i s := by
  unfold nx
  rw [show (besM a b).next.getD i default = a.next.getD i default by
    show (besR a b).getD i default = _
    simp [besR, List.getD, List.getElem?_append_left (show i < a.next.length by omega)]]
theorem bes_nx2 (hb : VM b) (hl : a.next.length = N) (hn : a.n = N) (hm : b.n = M) (hk : b.k = K) {j s : Nat} (hj : j < M) (hs : s < K) : nx (besM a b) (N + j) s = N + nx b j s := by
  have hbl := hb.len
  have h1 : (besM a b).next.getD (N + j) default = (b.next.getD j default).map (· + a.n) := by
    show (besR a b).getD (N + j) default = _
    unfold besR
    have h2 : j < b.next.length := by omega
    simp [List.getD, List.getElem?_append_right (show a.next.length ≤ N + j by omega), hl, h2]
  have hr := hb.row _ (getD_mem' (l := b.next) (i := j) (by omega))
  have hs2 : s < (b.next.getD j default).length := by omega
  have h3 : ((b.next.getD j default).map (· + a.n)).getD s 0 = (b.next.getD j default).getD s 0 + a.n := map_getD' _ _ _ _ _ hs2
  unfold nx
  rw [h1, h3]
  have h4 := hb.to _ (getD_mem' (l := b.next) (i := j) (by omega)) _ (getD_mem' (l := b.next.getD j default) (i := s) hs2)
  have h5 : (b.next.getD j default).getD s default = (b.next.getD j default).getD s 0 := rfl
  rw [h5] at h4
  omega
theorem bes_bit1 (hn : a.n = N) {i : Nat} (hi : i < N) : bitF (besM a b) i = bitF a i := by
  show (besF a b).testBit i = _
  unfold besF bitF
  rw [Nat.testBit_or, Nat.testBit_shiftLeft, show a.n.toNat = N by omega, decide_eq_false (by omega), Bool.false_and, Bool.or_false]
theorem bes_bit2 (ha : VM a) (hn : a.n = N) {j : Nat} : bitF (besM a b) (N + j) = bitF b j := by
  have h1 := ha.final.2
  show (besF a b).testBit (N + j) = _
  unfold besF bitF
  rw [Nat.testBit_or, Nat.testBit_shiftLeft, show a.n.toNat = N by omega, decide_eq_true (by omega), Bool.true_and, show N + j - N = j by omega]
  rw [show a.final.toNat.testBit (N + j) = false from Nat.testBit_lt_two_pow (Nat.lt_of_lt_of_le (show a.final.toNat < 2 ^ N by rw [show N = a.n.toNat by omega]; exact h1) (Nat.pow_le_pow_right (by omega) (by omega)))]
  rfl
end
/-- Does some word of r symbols part the two, from a pair on? -/
def dq (a b : Dm.Machine) (N r : Nat) (p : Nat × Nat) : Bool := dnB (besM a b) r p.1 (N + p.2)
section
variable {a b : Dm.Machine} {N M K : Nat}
theorem dq_zero (ha : VM a) (hn : a.n = N) {p : Nat × Nat} (hp : p.1 < N ∧ p.2 < M) : dq a b N 0 p = df a b p := by
  unfold dq df dnB
  rw [bes_bit1 hn hp.1, bes_bit2 ha hn]
theorem dq_succ (hb : VM b) (hl : a.next.length = N) (hn : a.n = N) (hm : b.n = M) (hka : a.k = K) (hk : b.k = K) {r : Nat} {p : Nat × Nat} (hp : p.1 < N ∧ p.2 < M) : dq a b N (r + 1) p = true ↔ ∃ s, s < K ∧ dq a b N r (stp a b p s) = true := by
  unfold dq
  rw [dnB_iff]
  show (∃ s, s < a.k.toNat ∧ DN (besM a b) r (nx (besM a b) p.1 s) (nx (besM a b) (N + p.2) s)) ↔ _
  rw [show a.k.toNat = K by omega]
  constructor
  · rintro ⟨s, hs, h⟩
    rw [bes_nx1 hl hp.1, bes_nx2 hb hl hn hm hk hp.2 hs] at h
    exact ⟨s, hs, dnB_iff.mpr h⟩
  · rintro ⟨s, hs, h⟩
    refine ⟨s, hs, ?_⟩
    rw [bes_nx1 hl hp.1, bes_nx2 hb hl hn hm hk hp.2 hs]
    exact dnB_iff.mp h
end
theorem wr_len_kid {K c s : Nat} (hs : s < K) : (wr K (c * K + s + 1)).length = (wr K c).length + 1 := by rw [wr_kid hs]; simp
theorem wr_len_mono {K : Nat} (hK : 0 < K) : ∀ {v u : Nat}, u ≤ v → (wr K u).length ≤ (wr K v).length := by
  intro v
  induction v using Nat.strongRecOn with
  | _ v ih =>
    intro u hu
    by_cases h0 : u = 0
    · subst h0; rw [wr_zero]; exact Nat.zero_le _
    · obtain ⟨u', s, hs, e, _⟩ := kid_ex hK (v := u) (by omega)
      obtain ⟨v', t, ht, e2, hv⟩ := kid_ex hK (v := v) (by omega)
      rw [e, e2, wr_len_kid hs, wr_len_kid ht]
      have h1 : u' * K < (v' + 1) * K := by rw [Nat.succ_mul]; omega
      have h2 := Nat.lt_of_mul_lt_mul_right h1
      have := ih v' hv (u := u') (by omega)
      omega
/-- What is needed of the two. -/
structure Two (a b : Dm.Machine) (N M K : Nat) (p0 : Nat × Nat) : Prop where
  ha : VM a
  hb : VM b
  hn : a.n = N
  hm : b.n = M
  hka : a.k = K
  hkb : b.k = K
  hp : p0.1 < N ∧ p0.2 < M
section
variable {a b : Dm.Machine} {N M K : Nat} {p0 : Nat × Nat}
theorem Two.lt (h : Two a b N M K p0) (v : Nat) : (dl a b K p0 v).1 < N ∧ (dl a b K p0 v).2 < M := dl_lt h.ha.wm h.hb.wm h.hn h.hm h.hp v
theorem Two.K0 (h : Two a b N M K p0) : 0 < K := by have := h.ha.k; have := h.hka; omega
theorem Two.zero (h : Two a b N M K p0) (v : Nat) : dq a b N 0 (dl a b K p0 v) = df a b (dl a b K p0 v) := dq_zero h.ha h.hn (h.lt v)
theorem Two.succ (h : Two a b N M K p0) {r c : Nat} : dq a b N (r + 1) (dl a b K p0 c) = true ↔ ∃ s, s < K ∧ dq a b N r (dl a b K p0 (c * K + s + 1)) = true := by
  rw [dq_succ h.hb (by have := h.ha.len; have := h.hn; omega) h.hn h.hm h.hka h.hkb (h.lt c)]
  constructor
  · rintro ⟨s, hs, h1⟩; exact ⟨s, hs, by rw [dl_kid hs]; exact h1⟩
  · rintro ⟨s, hs, h1⟩; rw [dl_kid hs] at h1; exact ⟨s, hs, h1⟩
theorem Two.up (h : Two a b N M K p0) : ∀ u r, dq a b N r (dl a b K p0 u) = true → dq a b N ((wr K u).length + r) p0 = true := by
  intro u
  induction u using Nat.strongRecOn with
  | _ u ih =>
    intro r hr
    by_cases h0 : u = 0
    · subst h0; rw [wr_zero]; rw [dl_zero] at hr; simpa using hr
    · obtain ⟨u', s, hs, e, hu⟩ := kid_ex h.K0 (v := u) (by omega)
      rw [e] at hr
      have h1 := ih u' hu (r + 1) (h.succ.mpr ⟨s, hs, hr⟩)
      rw [e, wr_len_kid hs, show (wr K u').length + 1 + r = (wr K u').length + (r + 1) by omega]
      exact h1
theorem Two.down (h : Two a b N M K p0) : ∀ r c, dq a b N r (dl a b K p0 c) = true → ∃ v, df a b (dl a b K p0 v) = true
  | 0, c, hr => ⟨c, by rw [← h.zero c]; exact hr⟩
  | r + 1, c, hr => by
    obtain ⟨s, hs, h1⟩ := h.succ.mp hr
    exact h.down r _ h1
/-- The road of the least word: it may be gone on by r symbols, and no lesser one may. -/
structure Road (a b : Dm.Machine) (N K : Nat) (p0 : Nat × Nat) (r c : Nat) : Prop where
  on : dq a b N r (dl a b K p0 c) = true
  le : ∀ u, u < c → (wr K u).length = (wr K c).length → dq a b N r (dl a b K p0 u) = false
theorem Two.step (h : Two a b N M K p0) {r c s : Nat} (hr : Road a b N K p0 (r + 1) c) (hs : s < K) (h1 : dq a b N r (dl a b K p0 (c * K + s + 1)) = true) (h2 : ∀ t, t < s → dq a b N r (dl a b K p0 (c * K + t + 1)) = false) : Road a b N K p0 r (c * K + s + 1) where
  on := h1
  le := fun u hu hl => by
    rw [wr_len_kid hs] at hl
    by_cases h0 : u = 0
    · subst h0; rw [wr_zero] at hl; simp at hl
    · obtain ⟨u', t, ht, e, _⟩ := kid_ex h.K0 (v := u) (by omega)
      rw [e, wr_len_kid ht] at hl
      rw [e]
      have h3 : u' * K < (c + 1) * K := by rw [Nat.succ_mul]; omega
      have h4 := Nat.lt_of_mul_lt_mul_right h3
      by_cases h5 : u' = c
      · subst h5; exact h2 t (by omega)
      · have h6 := hr.le u' (by omega) (by omega)
        rw [← Bool.not_eq_true] at h6 ⊢
        exact fun h7 => h6 (h.succ.mpr ⟨t, ht, h7⟩)
theorem Two.fin (h : Two a b N M K p0) {n c : Nat} (hr : Road a b N K p0 0 c) (hl : (wr K c).length = n) (hn : ∀ q, q < n → dq a b N q p0 = false) : LD a b K p0 c := by
  refine ⟨by rw [← h.zero c]; exact hr.on, fun u hu => ?_⟩
  have h1 := wr_len_mono h.K0 (Nat.le_of_lt hu)
  rw [← h.zero u]
  by_cases e : (wr K u).length = (wr K c).length
  · exact hr.le u hu e
  · rw [← Bool.not_eq_true]
    intro h2
    have h3 := h.up u 0 h2
    rw [hn _ (by omega)] at h3
    contradiction
/-- If any word parts them, a short one does. -/
theorem Two.short (h : Two a b N M K p0) (hs : ∀ q, q < N + M → dq a b N q p0 = false) : ∀ v, df a b (dl a b K p0 v) = false := by
  intro v
  rw [← Bool.not_eq_true]
  intro hv
  rw [← h.zero v] at hv
  have h1 := h.up v 0 hv
  have h2 : Dst (besM a b) p0.1 (N + p0.2) := ⟨_, dnB_iff.mp h1⟩
  have hN := h.hn
  have hM := h.hm
  have hp := h.hp
  rw [dst_short (bes_wm h.ha h.hb (by rw [h.hka, h.hkb])) (by show p0.1 < (a.n + b.n).toNat; omega) (by show N + p0.2 < (a.n + b.n).toNat; omega)] at h2
  obtain ⟨n, h3, h4⟩ := h2
  have h5 := hs n (by have : (besM a b).n = a.n + b.n := rfl; omega)
  unfold dq at h5
  rw [dnB_iff.mpr h4] at h5
  contradiction
end
end Go.Proofs.Ytbbpmodfbdibcaa
