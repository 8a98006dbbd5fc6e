/-
  'Rows.StoreSumsSaid': for any bytes the program's sum is the document's.
-/
import Derived.Test.YtcbilnmpiladnaaBytes
namespace Go.Proofs.Ytcbilnmpiladnaa
open Go.Dm
set_option linter.unusedSimpArgs false
set_option linter.unnecessarySimpa false

def byteAt (a : List UInt8) (k : Nat) : Nat := (a.getD k 0).toNat
theorem byteAt_lt (a : List UInt8) (k : Nat) : byteAt a k ≤ 255 := by
  have := (a.getD k 0).toNat_lt
  unfold byteAt
  omega
def sumX (a : List UInt8) : Nat → Nat
  | 0 => 0
  | k + 1 => sumX a k + byteAt a k
def sumY (a : List UInt8) : Nat → Nat
  | 0 => 0
  | k + 1 => sumY a k + sumX a (k + 1)
def sumZ (a : List UInt8) (n : Nat) : Nat → Nat
  | 0 => 0
  | k + 1 => sumZ a n k + (n - k) * byteAt a k
theorem sumX_le (a : List UInt8) : ∀ k, sumX a k ≤ 255 * k
  | 0 => by simp [sumX]
  | k + 1 => by
    have := sumX_le a k
    have := byteAt_lt a k
    simp only [sumX]
    omega
theorem sumZ_le (a : List UInt8) (n : Nat) : ∀ k, sumZ a n k ≤ n * 255 * k
  | 0 => by simp [sumZ]
  | k + 1 => by
    have h := sumZ_le a n k
    have h1 : (n - k) * byteAt a k ≤ n * 255 := Nat.mul_le_mul (by omega) (byteAt_lt a k)
    simp only [sumZ]
    rw [Nat.mul_succ]
    omega
theorem sumZ_eq (a : List UInt8) (n : Nat) : ∀ k, k ≤ n → sumZ a n k = sumY a k + (n - k) * sumX a k
  | 0, _ => by simp [sumZ, sumY, sumX]
  | k + 1, h => by
    have e := sumZ_eq a n k (by omega)
    obtain ⟨d, rfl⟩ : ∃ d, n = k + 1 + d := ⟨n - (k + 1), by omega⟩
    rw [show k + 1 + d - k = d + 1 by omega] at e
    simp only [sumZ, sumY, sumX]
    rw [show k + 1 + d - k = d + 1 by omega, show k + 1 + d - (k + 1) = d by omega, e, Nat.add_mul, Nat.add_mul, Nat.mul_add]
    omega

def sumBytes (x y : Nat) : List UInt8 := [UInt8.ofNat (x % 257), UInt8.ofNat (x % 257 / 256), UInt8.ofNat (y % 257), UInt8.ofNat (y % 257 / 256)]
def sumOf (a : List UInt8) : List UInt8 := sumBytes (sumX a a.length) (sumY a a.length)

theorem u8s_four {a b c d : Int} {x y : Nat} (ha : a = ((x % 257 : Nat) : Int) % 256) (hb : b = ((x % 257 / 256 : Nat) : Int)) (hc : c = ((y % 257 : Nat) : Int) % 256) (hd : d = ((y % 257 / 256 : Nat) : Int)) :
    ([[D.v (.int .u8 a)], [D.v (.int .u8 b)], [D.v (.int .u8 c)], [D.v (.int .u8 d)]] : List (List D)) = u8s (sumBytes x y) := by
  have e : ∀ n : Nat, ((UInt8.ofNat n).toNat : Int) = (n : Int) % 256 := fun n => by rw [UInt8.toNat_ofNat']; omega
  simp only [sumBytes, u8s, List.map_cons, List.map_nil, e]
  rw [ha, hb, hc, hd]
  rw [show ((x % 257 / 256 : Nat) : Int) % 256 = ((x % 257 / 256 : Nat) : Int) by omega, show ((y % 257 / 256 : Nat) : Int) % 256 = ((y % 257 / 256 : Nat) : Int) by omega]

set_option maxHeartbeats 1000000 in
theorem sum_vc (a : List UInt8) (ha : a.length ≤ 1048576) : vc Try.prog m34 [.f (finQ r34 (· = .sl 1 (u8s (sumOf a))))] (S.init [.sl 1 (u8s a)]) := by
  unfold m34 r34
  simp (disch := omega) only [↓va0, ↓va1, ↓va2, ↓va3, vb0, vb1, vb2, vb3, vb4, vb5, vb6, vb7, vb8, vb9, vb10, vz0, vz1, vy0, vx0, ↓reduceIte, Nat.reduceBEq, Nat.reduceEqDiff, Nat.reduceLT, Nat.reduceLeDiff, Nat.reduceAdd, Nat.reduceMul, Nat.reduceSub, reduceCtorEq, Int.reduceToNat]
  refine LoopVC.mk (X := Nat) (fun k => [(9, iv .i64 k), (3, iv .i64 ((sumX a k % 257 : Nat) : Int)), (4, iv .i64 ((sumY a k % 257 : Nat) : Int))]) (fun _ => []) (fun k => a.length - k) (fun k => k ≤ a.length) 0 (Nat.zero_le _) ?_ ?_
  · simp (disch := omega) only [Fits_u, Fits_nil, ↓va0, ↓va1, ↓va2, ↓va3, vb0, vb1, vb2, vb3, vb4, vb5, vb6, vb7, vb8, vb9, vb10, vz0, vz1, vy0, vx0, ↓reduceIte, Nat.reduceBEq, Nat.reduceEqDiff, Nat.reduceLT, Nat.reduceLeDiff, Nat.reduceAdd, Nat.reduceMul, Nat.reduceSub, reduceCtorEq, Int.reduceToNat]
    first | exact ⟨rfl, rfl, rfl⟩ | rfl | (repeat' apply And.intro) <;> rfl
  · intro k hk
    simp (disch := omega) only [↓va0, ↓va1, ↓va2, ↓va3, vb0, vb1, vb2, vb3, vb4, vb5, vb6, vb7, vb8, vb9, vb10, vz0, vz1, vy0, vx0, ↓reduceIte, Nat.reduceBEq, Nat.reduceEqDiff, Nat.reduceLT, Nat.reduceLeDiff, Nat.reduceAdd, Nat.reduceMul, Nat.reduceSub, reduceCtorEq, Int.reduceToNat]
    refine Br.dec (fun h => ?_) (fun h => ?_)
    · have hb := byteAt_lt a k
      have hb' : (a.getD k 0).toNat ≤ 255 := hb
      simp (disch := omega) only [↓va0, ↓va1, ↓va2, ↓va3, vb0, vb1, vb2, vb3, vb4, vb5, vb6, vb7, vb8, vb9, vb10, vz0, vz1, vy0, vx0, ↓reduceIte, Nat.reduceBEq, Nat.reduceEqDiff, Nat.reduceLT, Nat.reduceLeDiff, Nat.reduceAdd, Nat.reduceMul, Nat.reduceSub, reduceCtorEq, Int.reduceToNat]
      refine loopK.mk (k + 1) (by simp (disch := omega) only [↓va0, ↓va1, ↓va2, ↓va3, vb0, vb1, vb2, vb3, vb4, vb5, vb6, vb7, vb8, vb9, vb10, vz0, vz1, vy0, vx0, ↓reduceIte, Nat.reduceBEq, Nat.reduceEqDiff, Nat.reduceLT, Nat.reduceLeDiff, Nat.reduceAdd, Nat.reduceMul, Nat.reduceSub, reduceCtorEq, Int.reduceToNat]) (by omega) (by omega) ?_
      simp (disch := omega) only [Fits_u, Fits_nil, ↓va0, ↓va1, ↓va2, ↓va3, vb0, vb1, vb2, vb3, vb4, vb5, vb6, vb7, vb8, vb9, vb10, vz0, vz1, vy0, vx0, ↓reduceIte, Nat.reduceBEq, Nat.reduceEqDiff, Nat.reduceLT, Nat.reduceLeDiff, Nat.reduceAdd, Nat.reduceMul, Nat.reduceSub, reduceCtorEq, Int.reduceToNat]
      have e : ((a.getD k 0).toNat : Int) = (byteAt a k : Int) := rfl
      simp only [iv, sumX, sumY, e]
      (repeat' apply And.intro) <;> congr 2 <;> omega
    · simp (disch := omega) only [wrapu8_mod, shr8', ↓va0, ↓va1, ↓va2, ↓va3, vb0, vb1, vb2, vb3, vb4, vb5, vb6, vb7, vb8, vb9, vb10, vz0, vz1, vy0, vx0, ↓reduceIte, Nat.reduceBEq, Nat.reduceEqDiff, Nat.reduceLT, Nat.reduceLeDiff, Nat.reduceAdd, Nat.reduceMul, Nat.reduceSub, reduceCtorEq, Int.reduceToNat]
      try rw [viewO_all (n := 4) (show 4 = List.length [_, _, _, _] from rfl)]
      have e : k = a.length := by omega
      subst e
      refine fin_mk (congrArg (D.sl 1) ?_)
      rw [sumOf]
      refine u8s_four ?_ ?_ ?_ ?_ <;> omega

theorem sum_spec (a : List UInt8) (ha : a.length ≤ 1048576) : Dm.Spec Try.prog 34 [.sl 1 (u8s a)] (· = .sl 1 (u8s (sumOf a))) :=
  spec_of_vc mixed Try.func34 c34 (by rw [show Try.f34.ntmps = _ from Try.ntmps34]; simp) (sum_vc a ha)

set_option maxHeartbeats 1000000 in
theorem refSum_vc (a : List UInt8) (ha : a.length ≤ 1048576) : vc Try.prog m13 [.f (finQ r13 (· = .sl 1 (u8s (sumOf a))))] (S.init [.sl 1 (u8s a)]) := by
  unfold m13 r13
  simp (disch := omega) only [↓va0, ↓va1, ↓va2, ↓va3, vb0, vb1, vb2, vb3, vb4, vb5, vb6, vb7, vb8, vb9, vb10, vz0, vz1, vy0, vx0, ↓reduceIte, Nat.reduceBEq, Nat.reduceEqDiff, Nat.reduceLT, Nat.reduceLeDiff, Nat.reduceAdd, Nat.reduceMul, Nat.reduceSub, reduceCtorEq, Int.reduceToNat]
  refine LoopVC.mk (X := Nat) (fun k => [(5, iv .i64 k), (3, iv .i64 (sumX a k : Int)), (4, iv .i64 (sumZ a a.length k : Int))]) (fun _ => []) (fun k => a.length - k) (fun k => k ≤ a.length) 0 (Nat.zero_le _) ?_ ?_
  · simp (disch := omega) only [Fits_u, Fits_nil, ↓va0, ↓va1, ↓va2, ↓va3, vb0, vb1, vb2, vb3, vb4, vb5, vb6, vb7, vb8, vb9, vb10, vz0, vz1, vy0, vx0, ↓reduceIte, Nat.reduceBEq, Nat.reduceEqDiff, Nat.reduceLT, Nat.reduceLeDiff, Nat.reduceAdd, Nat.reduceMul, Nat.reduceSub, reduceCtorEq, Int.reduceToNat]
    first | exact ⟨rfl, rfl, rfl⟩ | rfl | (repeat' apply And.intro) <;> rfl
  · intro k hk
    simp (disch := omega) only [↓va0, ↓va1, ↓va2, ↓va3, vb0, vb1, vb2, vb3, vb4, vb5, vb6, vb7, vb8, vb9, vb10, vz0, vz1, vy0, vx0, ↓reduceIte, Nat.reduceBEq, Nat.reduceEqDiff, Nat.reduceLT, Nat.reduceLeDiff, Nat.reduceAdd, Nat.reduceMul, Nat.reduceSub, reduceCtorEq, Int.reduceToNat]
    have hX := sumX_le a k
    have hZ := sumZ_le a a.length k
    have hZ1 : a.length * 255 * k ≤ 1048576 * 255 * 1048576 := Nat.mul_le_mul (Nat.mul_le_mul_right 255 ha) (by omega)
    refine Br.dec (fun h => ?_) (fun h => ?_)
    · have hb := byteAt_lt a k
      have hb' : (a.getD k 0).toNat ≤ 255 := hb
      have hm : (a.length - k) * byteAt a k ≤ 1048576 * 255 := Nat.mul_le_mul (by omega) hb
      have e : ((a.getD k 0).toNat : Int) = (byteAt a k : Int) := rfl
      have em : ((a.length : Int) - (k : Int)) * (byteAt a k : Int) = (((a.length - k) * byteAt a k : Nat) : Int) := by
        rw [Int.natCast_mul, Int.natCast_sub hk]
      simp (disch := omega) only [e, em, ↓va0, ↓va1, ↓va2, ↓va3, vb0, vb1, vb2, vb3, vb4, vb5, vb6, vb7, vb8, vb9, vb10, vz0, vz1, vy0, vx0, ↓reduceIte, Nat.reduceBEq, Nat.reduceEqDiff, Nat.reduceLT, Nat.reduceLeDiff, Nat.reduceAdd, Nat.reduceMul, Nat.reduceSub, reduceCtorEq, Int.reduceToNat]
      refine loopK.mk (k + 1) (by simp (disch := omega) only [↓va0, ↓va1, ↓va2, ↓va3, vb0, vb1, vb2, vb3, vb4, vb5, vb6, vb7, vb8, vb9, vb10, vz0, vz1, vy0, vx0, ↓reduceIte, Nat.reduceBEq, Nat.reduceEqDiff, Nat.reduceLT, Nat.reduceLeDiff, Nat.reduceAdd, Nat.reduceMul, Nat.reduceSub, reduceCtorEq, Int.reduceToNat]) (by omega) (by omega) ?_
      simp (disch := omega) only [Fits_u, Fits_nil, ↓va0, ↓va1, ↓va2, ↓va3, vb0, vb1, vb2, vb3, vb4, vb5, vb6, vb7, vb8, vb9, vb10, vz0, vz1, vy0, vx0, ↓reduceIte, Nat.reduceBEq, Nat.reduceEqDiff, Nat.reduceLT, Nat.reduceLeDiff, Nat.reduceAdd, Nat.reduceMul, Nat.reduceSub, reduceCtorEq, Int.reduceToNat]
      simp only [iv, sumX, sumZ]
      (repeat' apply And.intro) <;> congr 2
    · have e : k = a.length := by omega
      subst e
      have hzy := sumZ_eq a a.length a.length (Nat.le_refl _)
      rw [Nat.sub_self, Nat.zero_mul, Nat.add_zero] at hzy
      simp (disch := omega) only [wrapu8_mod, ↓va0, ↓va1, ↓va2, ↓va3, vb0, vb1, vb2, vb3, vb4, vb5, vb6, vb7, vb8, vb9, vb10, vz0, vz1, vy0, vx0, ↓reduceIte, Nat.reduceBEq, Nat.reduceEqDiff, Nat.reduceLT, Nat.reduceLeDiff, Nat.reduceAdd, Nat.reduceMul, Nat.reduceSub, reduceCtorEq, Int.reduceToNat]
      try rw [viewO_all (n := 4) (show 4 = List.length [_, _, _, _] from rfl)]
      refine fin_mk (congrArg (D.sl 1) ?_)
      rw [sumOf, hzy]
      refine u8s_four ?_ ?_ ?_ ?_ <;> omega

theorem refSum_spec (a : List UInt8) (ha : a.length ≤ 1048576) : Dm.Spec Try.prog 13 [.sl 1 (u8s a)] (· = .sl 1 (u8s (sumOf a))) :=
  spec_of_vc mixed Try.func13 c13 (by rw [show Try.f13.ntmps = _ from Try.ntmps13]; simp) (refSum_vc a ha)

end Go.Proofs.Ytcbilnmpiladnaa
