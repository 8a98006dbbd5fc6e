/-
  Sets of numbers as bits; machine.Has, coppicerref.Bit.
-/
import Derived.Test.YtplkkacfjepgpaaBytes
import Derived.Test.YtplkkacfjepgpaaDmX
set_option linter.unusedVariables false
set_option linter.unusedSimpArgs false
set_option linter.unnecessarySimpa false
namespace Go.Proofs.Ytplkkacfjepgpaa
open Go.Dm
theorem and_one (n : Nat) : n &&& 1 = n % 2 := by
  have := Nat.and_two_pow_sub_one_eq_mod n 1
  simpa using this
theorem bit_eq {S n : Nat} : decide ((((S >>> n) &&& 1 : Nat) : Int) = 1) = S.testBit n := by
  rw [and_one, Nat.testBit_eq_decide_div_mod_eq, Nat.shiftRight_eq_div_pow]
  exact dec_iff (by omega)
def setOf (f : Nat → Bool) : Nat → Nat
  | 0 => 0
  | n + 1 => setOf f n ||| if f n = true then 2 ^ n else 0
theorem setOf_lt {f : Nat → Bool} : ∀ {n : Nat}, setOf f n < 2 ^ n
  | 0 => by simp [setOf]
  | n + 1 => by
    have := @setOf_lt f n
    have h2 : 2 ^ n < 2 ^ (n + 1) := Nat.pow_lt_pow_right (by omega) (by omega)
    rw [setOf]
    split
    · exact Nat.or_lt_two_pow (by omega) h2
    · rw [Nat.or_zero]; omega
theorem setOf_bit {f : Nat → Bool} {i : Nat} : ∀ {n : Nat}, (setOf f n).testBit i = (decide (i < n) && f i)
  | 0 => by simp [setOf]
  | n + 1 => by
    rw [setOf, Nat.testBit_or, setOf_bit]
    by_cases e : i = n
    · subst e
      by_cases h : f i = true
      · rw [if_pos h, Nat.testBit_two_pow_self, h]; simp
      · rw [if_neg h, Nat.zero_testBit]; simp at h; simp [h]
    · have h1 : decide (i < n + 1) = decide (i < n) := dec_iff (by omega)
      rw [h1]
      split
      · rw [Nat.testBit_two_pow_of_ne (by omega), Bool.or_false]
      · rw [Nat.zero_testBit, Bool.or_false]
theorem setOf_add {f : Nat → Bool} {n : Nat} (h : f n = true) : setOf f (n + 1) = setOf f n + 2 ^ n := by
  rw [setOf, if_pos h]
  have := Nat.two_pow_add_eq_or_of_lt (@setOf_lt f n) 1
  rw [Nat.mul_one] at this
  rw [Nat.add_comm, this, Nat.or_comm]
theorem setOf_skip {f : Nat → Bool} {n : Nat} (h : ¬ f n = true) : setOf f (n + 1) = setOf f n := by
  rw [setOf, if_neg h, Nat.or_zero]
theorem set_ext {S : Nat} {f : Nat → Bool} {n : Nat} (hS : S < 2 ^ n) (h : ∀ i, i < n → S.testBit i = f i) : S = setOf f n := by
  apply Nat.eq_of_testBit_eq
  intro i
  rw [setOf_bit]
  by_cases e : i < n
  · rw [h i e, decide_eq_true e, Bool.true_and]
  · rw [decide_eq_false e, Bool.false_and]
    exact Nat.testBit_lt_two_pow (Nat.lt_of_lt_of_le hS (Nat.pow_le_pow_right (by omega) (by omega)))
theorem or_two_lt {S l n : Nat} (hS : S < 2 ^ n) (hl : l < n) : S ||| 2 ^ l < 2 ^ n := Nat.or_lt_two_pow hS (Nat.pow_lt_pow_right (by omega) hl)
theorem le_or {S T : Nat} : S ≤ S ||| T := Nat.left_le_or
theorem or_bit {S l x : Nat} : (S ||| 2 ^ l).testBit x = (S.testBit x || decide (x = l)) := by
  rw [Nat.testBit_or]
  by_cases e : x = l
  · subst e; rw [Nat.testBit_two_pow_self]; simp
  · rw [Nat.testBit_two_pow_of_ne (by omega)]; simp [e]
theorem shrN {S n : Nat} (hn : n ≤ 32) : ((S : Nat) : Int).fdiv (2 ^ (min n IntKind.u32.bits)) = ((S >>> n : Nat) : Int) := by
  have e : min n IntKind.u32.bits = n := Nat.min_eq_left (by show n ≤ 32; omega)
  rw [e, Int.fdiv_eq_ediv_of_nonneg _ (Int.le_of_lt (Int.pow_pos (by omega))), Nat.shiftRight_eq_div_pow, Int.natCast_ediv]
  congr 1
theorem andN {S T : Nat} (hS : (S : Int) ≤ 4294967295) (hT : (T : Int) ≤ 4294967295) : IntKind.u32.wrap ((BitVec.ofInt IntKind.u32.bits (S : Int) &&& BitVec.ofInt IntKind.u32.bits (T : Int)).toNat : Int) = ((S &&& T : Nat) : Int) := by
  rw [and32 (by omega) (by omega), Int.toNat_natCast, Int.toNat_natCast]
theorem orN {S T : Nat} (hS : (S : Int) ≤ 4294967295) (hT : (T : Int) ≤ 4294967295) : IntKind.u32.wrap ((BitVec.ofInt IntKind.u32.bits (S : Int) ||| BitVec.ofInt IntKind.u32.bits (T : Int)).toNat : Int) = ((S ||| T : Nat) : Int) := by
  rw [or32 (by omega) (by omega), Int.toNat_natCast, Int.toNat_natCast]
theorem shlN {n : Nat} (hn : n ≤ 31) : IntKind.u32.wrap (1 * 2 ^ (min n IntKind.u32.bits)) = ((2 ^ n : Nat) : Int) := by
  have := shl32_1 (n := n) (by omega)
  rwa [Int.toNat_natCast] at this
theorem shr_le {S n : Nat} : S >>> n ≤ S := by rw [Nat.shiftRight_eq_div_pow]; exact Nat.div_le_self _ _
theorem pow_le31 {n : Nat} (hn : n ≤ 31) : ((2 ^ n : Nat) : Int) ≤ 2147483648 := by
  have h : 2 ^ n ≤ 2 ^ 31 := Nat.pow_le_pow_right (by omega) hn
  omega
set_option maxRecDepth 10000 in
set_option maxHeartbeats 4000000 in
theorem has_spec (S n : Nat) (hS : (S : Int) ≤ 4294967295) (hn : n ≤ 31) : Dm.Spec Try.prog 29 [iv .u32 S, iv .i64 n] (· = .v (.bool (S.testBit n))) := by
  refine spec_of_vc mixed Try.func29 c29 (by rw [show Try.f29.ntmps = _ from Try.ntmps29]; simp) ?_
  unfold m29 r29
  repeat' first | ((first | refine Br.dec ?_ ?_ | refine Br.eqi ?_ ?_) <;> intro h <;> try (exfalso; omega)) | (simp (disch := (first | omega | (simp only [vlen]; first | done | omega))) only [↓vAq, vBq, ↓reduceIte, Nat.reduceBEq, Nat.reduceEqDiff, Nat.reduceLT, Nat.reduceLeDiff, Nat.reduceAdd, Nat.reduceMul, Nat.reduceSub, reduceCtorEq, Int.reduceToNat]) | (refine Br.mk ?_ ?_ <;> intro h) | (refine BrN.mk (fun h => ?_) ?_) | (refine AltVC.mk ?_ ?_)
  refine fin_mk (vbEq ?_)
  have := @shr_le S n
  rw [shrN (by omega), show (1 : Int) = ((1 : Nat) : Int) from rfl, andN (by omega) (by omega), ← bit_eq]
  rfl
theorem bit_and {S n : Nat} : decide (((S &&& 2 ^ n : Nat) : Int) = 0) = !S.testBit n := by
  have h : S &&& 2 ^ n = if S.testBit n then 2 ^ n else 0 := by
    apply Nat.eq_of_testBit_eq
    intro i
    rw [Nat.testBit_and]
    by_cases e : i = n
    · subst e; rw [Nat.testBit_two_pow_self]; cases h : S.testBit i <;> simp
    · rw [Nat.testBit_two_pow_of_ne (by omega)]; cases h : S.testBit n <;> simp [Nat.testBit_two_pow_of_ne (Ne.symm e)]
  have hp : 0 < 2 ^ n := Nat.pow_pos (by omega)
  rw [h]
  cases S.testBit n
  · simp
  · simp only [if_true]; rw [decide_eq_false (by omega)]; rfl
set_option maxRecDepth 10000 in
set_option maxHeartbeats 4000000 in
theorem bit_spec (S : Nat) (i : Int) (hS : (S : Int) ≤ 4294967295) (hi : ok64 i) : Dm.Spec Try.prog 34 [iv .u32 S, iv .i64 i] (· = .v (.bool (decide (0 ≤ i ∧ i < 32) && S.testBit i.toNat))) := by
  refine spec_of_vc mixed Try.func34 c34 (by rw [show Try.f34.ntmps = _ from Try.ntmps34]; simp) ?_
  unfold m34 r34
  repeat' first | ((first | refine Br.dec ?_ ?_ | refine Br.eqi ?_ ?_) <;> intro h <;> try (exfalso; omega)) | (simp (disch := (first | omega | (simp only [vlen]; first | done | omega))) only [↓vAq, vBq, ↓reduceIte, Nat.reduceBEq, Nat.reduceEqDiff, Nat.reduceLT, Nat.reduceLeDiff, Nat.reduceAdd, Nat.reduceMul, Nat.reduceSub, reduceCtorEq, Int.reduceToNat]) | (refine Br.mk ?_ ?_ <;> intro h) | (refine BrN.mk (fun h => ?_) ?_) | (refine AltVC.mk ?_ ?_)
  · refine fin_mk (vbEq ?_)
    obtain ⟨n, rfl⟩ : ∃ n : Nat, i = n := ⟨i.toNat, by omega⟩
    have hp := @pow_le31 n (by omega)
    rw [Int.toNat_natCast, shlN (by omega), andN hS (by omega), decide_eq_true (by omega), Bool.true_and]
    have := @bit_and S n
    rw [show ((((S &&& 2 ^ n : Nat) : Int)) != 0) = !decide (((S &&& 2 ^ n : Nat) : Int) = 0) from rfl, this, Bool.not_not]
  · exact fin_mk (vbEq (by rw [decide_eq_false (by omega)]; rfl))
  · exact fin_mk (vbEq (by rw [decide_eq_false (by omega)]; rfl))
end Go.Proofs.Ytplkkacfjepgpaa
