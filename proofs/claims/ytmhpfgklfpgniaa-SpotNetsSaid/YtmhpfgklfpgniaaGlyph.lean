/-
  Sets of positions (glyph.Set): five words of 64 bits.
-/
import Derived.Test.YtmhpfgklfpgniaaBits
namespace Go.Proofs.Ytmhpfgklfpgniaa
open Go.Dm
set_option linter.unusedSimpArgs false
set_option linter.unnecessarySimpa false
set_option linter.unusedVariables false
set_option linter.defProp false
theorem ofInt64 {a : Int} (ha : 0 ≤ a ∧ a ≤ 18446744073709551615) : (BitVec.ofInt IntKind.u64.bits a).toNat = a.toNat := by
  rw [BitVec.toNat_ofInt]
  have e : ((2 : Nat) ^ IntKind.u64.bits : Nat) = 18446744073709551616 := by decide
  rw [show ((2 ^ IntKind.u64.bits : Nat) : Int) = 18446744073709551616 by rw [e]; rfl, Int.emod_eq_of_lt ha.1 (by omega)]
theorem or64 {S T : Nat} (ha : S < 2 ^ 64) (hb : T < 2 ^ 64) : IntKind.u64.wrap ((BitVec.ofInt IntKind.u64.bits (S : Int) ||| BitVec.ofInt IntKind.u64.bits (T : Int)).toNat : Int) = ((S ||| T : Nat) : Int) := by
  rw [BitVec.toNat_or, ofInt64 (by omega), ofInt64 (by omega), Int.toNat_natCast, Int.toNat_natCast]
  have : S ||| T < 2 ^ 64 := Nat.or_lt_two_pow ha hb
  exact wrapu64_id (by omega)
theorem and64 {S T : Nat} (ha : S < 2 ^ 64) (hb : T < 2 ^ 64) : IntKind.u64.wrap ((BitVec.ofInt IntKind.u64.bits (S : Int) &&& BitVec.ofInt IntKind.u64.bits (T : Int)).toNat : Int) = ((S &&& T : Nat) : Int) := by
  rw [BitVec.toNat_and, ofInt64 (by omega), ofInt64 (by omega), Int.toNat_natCast, Int.toNat_natCast]
  have : S &&& T < 2 ^ 64 := Nat.and_lt_two_pow _ hb
  exact wrapu64_id (by omega)
theorem shr64 {S n : Nat} (hn : n ≤ 64) : ((S : Nat) : Int).fdiv (2 ^ (min n IntKind.u64.bits)) = ((S >>> n : Nat) : Int) := by
  have e : min n IntKind.u64.bits = n := Nat.min_eq_left (by show n ≤ 64; omega)
  rw [e, Int.fdiv_eq_ediv_of_nonneg _ (Int.le_of_lt (Int.pow_pos (by omega))), Nat.shiftRight_eq_div_pow, Int.natCast_ediv]
  congr 1
theorem shl64 {n : Nat} (hn : n ≤ 63) : IntKind.u64.wrap (1 * 2 ^ (min n IntKind.u64.bits)) = ((2 ^ n : Nat) : Int) := by
  have e : min n IntKind.u64.bits = n := Nat.min_eq_left (by show n ≤ 64; omega)
  have h : 2 ^ n ≤ 2 ^ 63 := Nat.pow_le_pow_right (by omega) (by omega)
  rw [e, Int.one_mul]
  have e2 : (2 : Int) ^ n = ((2 ^ n : Nat) : Int) := by simp
  rw [e2]
  generalize 2 ^ n = q at *
  exact wrapu64_id (by omega)
/-- A set's word. -/
def gwN (f : Nat → Bool) (i : Nat) : Nat := setOf (fun j => f (64 * i + j)) 64
theorem gwN_lt {f : Nat → Bool} {i : Nat} : gwN f i < 2 ^ 64 := setOf_lt
theorem gwN_int {f : Nat → Bool} {i : Nat} : (0 : Int) ≤ (gwN f i : Int) ∧ (gwN f i : Int) ≤ 18446744073709551615 := by
  have := @gwN_lt f i
  omega
def gw (f : Nat → Bool) (i : Nat) : D := .v (.int .u64 (gwN f i))
def gsD (f : Nat → Bool) : List D := [gw f 0, gw f 1, gw f 2, gw f 3, gw f 4]
theorem gsD_eq {f : Nat → Bool} : gsD f = [.v (.int .u64 (gwN f 0)), .v (.int .u64 (gwN f 1)), .v (.int .u64 (gwN f 2)), .v (.int .u64 (gwN f 3)), .v (.int .u64 (gwN f 4))] := (rfl)
theorem gs_get {f : Nat → Bool} {i : Nat} (h : i < 5) : [D.v (.int .u64 (gwN f 0)), .v (.int .u64 (gwN f 1)), .v (.int .u64 (gwN f 2)), .v (.int .u64 (gwN f 3)), .v (.int .u64 (gwN f 4))].getD i .junk = .v (.int .u64 (gwN f i)) := by
  have h5 : i = 0 ∨ i = 1 ∨ i = 2 ∨ i = 3 ∨ i = 4 := by omega
  rcases h5 with rfl | rfl | rfl | rfl | rfl <;> rfl
theorem gw_bit {f : Nat → Bool} {i j : Nat} (h : j < 64) : (gwN f i).testBit j = f (64 * i + j) := by
  unfold gwN; rw [setOf_bit, decide_eq_true h, Bool.true_and]
theorem gw_ext {f g : Nat → Bool} {i : Nat} (h : ∀ j, j < 64 → f (64 * i + j) = g (64 * i + j)) : gwN f i = gwN g i := set_ext gwN_lt fun j hj => by rw [gw_bit hj, h j hj]
theorem gs_ext {f g : Nat → Bool} (h : ∀ j, j < 320 → f j = g j) : gsD f = gsD g := by
  unfold gsD gw
  rw [gw_ext (i := 0) fun j hj => h _ (by omega), gw_ext (i := 1) fun j hj => h _ (by omega), gw_ext (i := 2) fun j hj => h _ (by omega), gw_ext (i := 3) fun j hj => h _ (by omega), gw_ext (i := 4) fun j hj => h _ (by omega)]
theorem gs_zero : gsD (fun _ => false) = [.v (.int .u64 0), .v (.int .u64 0), .v (.int .u64 0), .v (.int .u64 0), .v (.int .u64 0)] := by
  have : ∀ i, gwN (fun _ => false) i = 0 := fun i => by
    unfold gwN
    have : ∀ n, setOf (fun _ => false) n = 0 := fun n => by
      induction n with
      | zero => rfl
      | succ n ih => simp [setOf, ih]
    exact this 64
  unfold gsD gw
  rw [this, this, this, this, this]
  rfl
theorem gq {p : Nat} : ((p : Int) / 64).toNat = p / 64 := by omega
theorem gr {p : Nat} : ((p : Int) % 64).toNat = p % 64 := by omega
theorem gs_lit {f : Nat → Bool} {a b c d e : Nat} (h0 : gwN f 0 = a) (h1 : gwN f 1 = b) (h2 : gwN f 2 = c) (h3 : gwN f 3 = d) (h4 : gwN f 4 = e) : [D.v (.int .u64 a), .v (.int .u64 b), .v (.int .u64 c), .v (.int .u64 d), .v (.int .u64 e)] = gsD f := by
  subst h0; subst h1; subst h2; subst h3; subst h4; rfl
theorem gs_set {f g : Nat → Bool} {i X : Nat} (hi : i < 5) (hX : X = gwN g i) (ho : ∀ j, j < 5 → j ≠ i → gwN f j = gwN g j) : [D.v (.int .u64 (gwN f 0)), .v (.int .u64 (gwN f 1)), .v (.int .u64 (gwN f 2)), .v (.int .u64 (gwN f 3)), .v (.int .u64 (gwN f 4))].set i (D.v (.int .u64 X)) = [D.v (.int .u64 (gwN g 0)), .v (.int .u64 (gwN g 1)), .v (.int .u64 (gwN g 2)), .v (.int .u64 (gwN g 3)), .v (.int .u64 (gwN g 4))] := by
  subst hX
  have h5 : i = 0 ∨ i = 1 ∨ i = 2 ∨ i = 3 ∨ i = 4 := by omega
  rcases h5 with rfl | rfl | rfl | rfl | rfl
  · simp [ho 1, ho 2, ho 3, ho 4]
  · simp [ho 0, ho 2, ho 3, ho 4]
  · simp [ho 0, ho 1, ho 3, ho 4]
  · simp [ho 0, ho 1, ho 2, ho 4]
  · simp [ho 0, ho 1, ho 2, ho 3]
/-- One more. -/
def gAdd (f : Nat → Bool) (p j : Nat) : Bool := f j || decide (j = p)
theorem gs_add {f : Nat → Bool} {p : Nat} (hp : p < 320) : [D.v (.int .u64 (gwN f 0)), .v (.int .u64 (gwN f 1)), .v (.int .u64 (gwN f 2)), .v (.int .u64 (gwN f 3)), .v (.int .u64 (gwN f 4))].set (p / 64 * 1) (D.v (.int .u64 (IntKind.u64.wrap ((BitVec.ofInt IntKind.u64.bits (gwN f (p / 64 * 1) : Int) ||| BitVec.ofInt IntKind.u64.bits (IntKind.u64.wrap (1 * 2 ^ (min (p % 64) IntKind.u64.bits)))).toNat : Int)))) =
    [D.v (.int .u64 (gwN (gAdd f p) 0)), .v (.int .u64 (gwN (gAdd f p) 1)), .v (.int .u64 (gwN (gAdd f p) 2)), .v (.int .u64 (gwN (gAdd f p) 3)), .v (.int .u64 (gwN (gAdd f p) 4))] := by
  have h2 : (2 : Nat) ^ (p % 64) < 2 ^ 64 := Nat.pow_lt_pow_right (by omega) (by omega)
  rw [shl64 (by omega), or64 gwN_lt h2, Nat.mul_one]
  refine gs_set (by omega) ?_ fun j hj hn => gw_ext fun q hq => ?_
  · apply Nat.eq_of_testBit_eq
    intro x
    by_cases hx : x < 64
    · rw [gw_bit hx, or_bit, gw_bit hx]
      unfold gAdd
      congr 1
      exact dec_iff (by omega)
    · have := @gwN_lt (gAdd f p) (p / 64)
      rw [Nat.testBit_lt_two_pow (Nat.lt_of_lt_of_le (Nat.or_lt_two_pow gwN_lt h2) (Nat.pow_le_pow_right (by omega) (by omega))), Nat.testBit_lt_two_pow (Nat.lt_of_lt_of_le this (Nat.pow_le_pow_right (by omega) (by omega)))]
  · unfold gAdd; rw [decide_eq_false (by omega), Bool.or_false]
def gOrU (f g : Nat → Bool) (i j : Nat) : Bool := if j < 64 * i then f j || g j else f j
def gOr (f g : Nat → Bool) (j : Nat) : Bool := f j || g j
theorem gs_or {f g : Nat → Bool} {i : Nat} (hi : i < 5) : [D.v (.int .u64 (gwN (gOrU f g i) 0)), .v (.int .u64 (gwN (gOrU f g i) 1)), .v (.int .u64 (gwN (gOrU f g i) 2)), .v (.int .u64 (gwN (gOrU f g i) 3)), .v (.int .u64 (gwN (gOrU f g i) 4))].set (i * 1) (D.v (.int .u64 (IntKind.u64.wrap ((BitVec.ofInt IntKind.u64.bits (gwN (gOrU f g i) (i * 1) : Int) ||| BitVec.ofInt IntKind.u64.bits (gwN g (i * 1) : Int)).toNat : Int)))) =
    [D.v (.int .u64 (gwN (gOrU f g (i + 1)) 0)), .v (.int .u64 (gwN (gOrU f g (i + 1)) 1)), .v (.int .u64 (gwN (gOrU f g (i + 1)) 2)), .v (.int .u64 (gwN (gOrU f g (i + 1)) 3)), .v (.int .u64 (gwN (gOrU f g (i + 1)) 4))] := by
  rw [or64 gwN_lt gwN_lt, Nat.mul_one]
  refine gs_set (by omega) ?_ fun j hj hn => gw_ext fun q hq => ?_
  · apply Nat.eq_of_testBit_eq
    intro x
    by_cases hx : x < 64
    · rw [gw_bit hx, Nat.testBit_or, gw_bit hx, gw_bit hx]
      unfold gOrU
      rw [if_neg (by omega), if_pos (by omega)]
    · have h1 := @gwN_lt (gOrU f g (i + 1)) i
      rw [Nat.testBit_lt_two_pow (Nat.lt_of_lt_of_le (Nat.or_lt_two_pow gwN_lt gwN_lt) (Nat.pow_le_pow_right (by omega) (by omega))), Nat.testBit_lt_two_pow (Nat.lt_of_lt_of_le h1 (Nat.pow_le_pow_right (by omega) (by omega)))]
  · unfold gOrU
    by_cases h : j < i
    · rw [if_pos (by omega), if_pos (by omega)]
    · rw [if_neg (by omega), if_neg (by omega)]
theorem gOrU_zero {f g : Nat → Bool} : gOrU f g 0 = f := by funext j; unfold gOrU; rw [if_neg (by omega)]
theorem gs_or5 {f g : Nat → Bool} : gsD (gOrU f g 5) = gsD (gOr f g) := gs_ext fun j hj => by unfold gOrU gOr; rw [if_pos (by omega)]
theorem gw_meet {f g : Nat → Bool} {i : Nat} : gwN f i &&& gwN g i ≠ 0 ↔ ∃ j, j < 64 ∧ f (64 * i + j) = true ∧ g (64 * i + j) = true := by
  constructor
  · intro h
    apply Classical.byContradiction
    intro hn
    apply h
    apply Nat.eq_of_testBit_eq
    intro x
    rw [Nat.zero_testBit, Nat.testBit_and]
    by_cases hx : x < 64
    · rw [gw_bit hx, gw_bit hx, Bool.and_eq_false_iff]
      apply Classical.byContradiction
      intro h2
      simp only [not_or, Bool.not_eq_false] at h2
      exact hn ⟨x, hx, h2⟩
    · rw [Nat.testBit_lt_two_pow (Nat.lt_of_lt_of_le (@gwN_lt f i) (Nat.pow_le_pow_right (by omega) (by omega)))]; rfl
  · rintro ⟨j, hj, h1, h2⟩ h
    have := congrArg (fun n => n.testBit j) h
    simp only [Nat.testBit_and, Nat.zero_testBit] at this
    rw [gw_bit hj, gw_bit hj, h1, h2] at this
    cases this
/-- Have two sets something in common? -/
def gMeet (f g : Nat → Bool) : Bool := (List.range 320).any fun j => f j && g j
def vgl := And.intro @gs_get <| And.intro @gsD_eq <| And.intro @gq <| And.intro @gr <| And.intro @gs_add @gs_or
set_option maxRecDepth 10000 in
set_option maxHeartbeats 4000000 in
theorem gHas_spec (f : Nat → Bool) (p : Nat) (hp : p < 320) : Dm.Spec Try.prog 46 [.ag (gsD f), iv .i64 p] (· = .v (.bool (f p))) := by
  refine spec_of_vc mixed Try.func46 c46 (by rw [show Try.f46.ntmps = _ from Try.ntmps46]; simp) ?_
  unfold m46 r46
  repeat' first | (refine Br.dec (fun h => ?_) (fun h => ?_) <;> try (exfalso; omega)) | (refine Br.eqi (fun h => ?_) (fun h => ?_) <;> try (exfalso; omega)) | (simp (disch := (first | omega | (simp only [vlen]; first | done | omega))) only [vgl, ↓va0, ↓va1, ↓va2, ↓va3, vb0, vb1, vb2, vb3, vb4, vb5, vb6, vb7, vb8, vb9, vb10, vz0, vz1, vy0, vx0, ↓reduceIte, Nat.reduceBEq, Nat.reduceEqDiff, Nat.reduceLT, Nat.reduceLeDiff, Nat.reduceAdd, Nat.reduceMul, Nat.reduceSub, reduceCtorEq, Int.reduceToNat]) | (refine Br.mk (fun h => ?_) (fun h => ?_)) | (refine BrN.mk (fun h => ?_) ?_) | (refine AltVC.mk ?_ ?_)
  refine fin_mk (vbEq ?_)
  have h1 : gwN f (p / 64) >>> (p % 64) < 2 ^ 64 := Nat.lt_of_le_of_lt shr_le gwN_lt
  rw [Nat.mul_one, shr64 (by omega), show (1 : Int) = ((1 : Nat) : Int) from rfl, and64 h1 (by omega)]
  have := @bit_eq (gwN f (p / 64)) (p % 64)
  rw [gw_bit (by omega)] at this
  rw [show 64 * (p / 64) + p % 64 = p by omega] at this
  rw [← this]
  rfl
set_option maxRecDepth 10000 in
set_option maxHeartbeats 4000000 in
theorem gWith_spec (f : Nat → Bool) (p : Nat) (hp : p < 320) : Dm.Spec Try.prog 71 [.ag (gsD f), iv .i64 p] (· = .ag (gsD (gAdd f p))) := by
  refine spec_of_vc mixed Try.func71 c71 (by rw [show Try.f71.ntmps = _ from Try.ntmps71]; simp) ?_
  unfold m71 r71
  repeat' first | (refine Br.dec (fun h => ?_) (fun h => ?_) <;> try (exfalso; omega)) | (refine Br.eqi (fun h => ?_) (fun h => ?_) <;> try (exfalso; omega)) | (simp (disch := (first | omega | (simp only [vlen]; first | done | omega))) only [vgl, ↓va0, ↓va1, ↓va2, ↓va3, vb0, vb1, vb2, vb3, vb4, vb5, vb6, vb7, vb8, vb9, vb10, vz0, vz1, vy0, vx0, ↓reduceIte, Nat.reduceBEq, Nat.reduceEqDiff, Nat.reduceLT, Nat.reduceLeDiff, Nat.reduceAdd, Nat.reduceMul, Nat.reduceSub, reduceCtorEq, Int.reduceToNat]) | (refine Br.mk (fun h => ?_) (fun h => ?_)) | (refine BrN.mk (fun h => ?_) ?_) | (refine AltVC.mk ?_ ?_)
  exact fin_mk rfl
set_option maxRecDepth 10000 in
set_option maxHeartbeats 4000000 in
theorem gOr_spec (f g : Nat → Bool) : Dm.Spec Try.prog 83 [.ag (gsD f), .ag (gsD g)] (· = .ag (gsD (gOr f g))) := by
  refine spec_of_vc mixed Try.func83 c83 (by rw [show Try.f83.ntmps = _ from Try.ntmps83]; simp) ?_
  unfold m83 r83
  repeat' first | (refine Br.dec (fun h => ?_) (fun h => ?_) <;> try (exfalso; omega)) | (refine Br.eqi (fun h => ?_) (fun h => ?_) <;> try (exfalso; omega)) | (simp (disch := (first | omega | (simp only [vlen]; first | done | omega))) only [vgl, ↓va0, ↓va1, ↓va2, ↓va3, vb0, vb1, vb2, vb3, vb4, vb5, vb6, vb7, vb8, vb9, vb10, vz0, vz1, vy0, vx0, ↓reduceIte, Nat.reduceBEq, Nat.reduceEqDiff, Nat.reduceLT, Nat.reduceLeDiff, Nat.reduceAdd, Nat.reduceMul, Nat.reduceSub, reduceCtorEq, Int.reduceToNat]) | (refine Br.mk (fun h => ?_) (fun h => ?_)) | (refine BrN.mk (fun h => ?_) ?_) | (refine AltVC.mk ?_ ?_)
  refine LoopVC.mk (X := Nat) (fun i => [(6, iv .i64 i)]) (fun i => [(0, ⟨5, [gsD (gOrU f g i)], true, false, .fix⟩), (1, ⟨5, [gsD g], true, false, .fix⟩), (2, ⟨5, [[.v (.int .u64 0), .v (.int .u64 0), .v (.int .u64 0), .v (.int .u64 0), .v (.int .u64 0)]], true, false, .fix⟩)]) (fun i => 5 - i) (fun i => i ≤ 5) 0 (by omega) ?_ ?_
  · rw [gOrU_zero]
    (simp (disch := (first | omega | (simp only [vlen]; first | done | omega))) only [Fits_u, Fits_m, Fits_nil, List.length_append, vgl, ↓va0, ↓va1, ↓va2, ↓va3, vb0, vb1, vb2, vb3, vb4, vb5, vb6, vb7, vb8, vb9, vb10, vz0, vz1, vy0, vx0, ↓reduceIte, Nat.reduceBEq, Nat.reduceEqDiff, Nat.reduceLT, Nat.reduceLeDiff, Nat.reduceAdd, Nat.reduceMul, Nat.reduceSub, reduceCtorEq, Int.reduceToNat] <;> (repeat' first | rfl | apply And.intro))
  · intro i hi
    by_cases hi5 : i < 5
    · repeat' first | (refine Br.dec (fun h => ?_) (fun h => ?_) <;> try (exfalso; omega)) | (refine Br.eqi (fun h => ?_) (fun h => ?_) <;> try (exfalso; omega)) | (simp (disch := (first | omega | (simp only [vlen]; first | done | omega))) only [vgl, ↓va0, ↓va1, ↓va2, ↓va3, vb0, vb1, vb2, vb3, vb4, vb5, vb6, vb7, vb8, vb9, vb10, vz0, vz1, vy0, vx0, ↓reduceIte, Nat.reduceBEq, Nat.reduceEqDiff, Nat.reduceLT, Nat.reduceLeDiff, Nat.reduceAdd, Nat.reduceMul, Nat.reduceSub, reduceCtorEq, Int.reduceToNat]) | (refine Br.mk (fun h => ?_) (fun h => ?_)) | (refine BrN.mk (fun h => ?_) ?_) | (refine AltVC.mk ?_ ?_)
      refine loopK.mk (i + 1) (by simp (disch := (first | omega | (simp only [vlen]; first | done | omega))) only [↓va0, ↓va1, ↓va2, ↓va3, vb0, vb1, vb2, vb3, vb4, vb5, vb6, vb7, vb8, vb9, vb10, vz0, vz1, vy0, vx0, ↓reduceIte, Nat.reduceBEq, Nat.reduceEqDiff, Nat.reduceLT, Nat.reduceLeDiff, Nat.reduceAdd, Nat.reduceMul, Nat.reduceSub, reduceCtorEq, Int.reduceToNat]) (by omega) (by omega) ?_
      (simp (disch := (first | omega | (simp only [vlen]; first | done | omega))) only [Fits_u, Fits_m, Fits_nil, List.length_append, vgl, ↓va0, ↓va1, ↓va2, ↓va3, vb0, vb1, vb2, vb3, vb4, vb5, vb6, vb7, vb8, vb9, vb10, vz0, vz1, vy0, vx0, ↓reduceIte, Nat.reduceBEq, Nat.reduceEqDiff, Nat.reduceLT, Nat.reduceLeDiff, Nat.reduceAdd, Nat.reduceMul, Nat.reduceSub, reduceCtorEq, Int.reduceToNat] <;> (repeat' first | rfl | apply And.intro))
    · have : i = 5 := by omega
      subst this
      repeat' first | (refine Br.dec (fun h => ?_) (fun h => ?_) <;> try (exfalso; omega)) | (refine Br.eqi (fun h => ?_) (fun h => ?_) <;> try (exfalso; omega)) | (simp (disch := (first | omega | (simp only [vlen]; first | done | omega))) only [vgl, ↓va0, ↓va1, ↓va2, ↓va3, vb0, vb1, vb2, vb3, vb4, vb5, vb6, vb7, vb8, vb9, vb10, vz0, vz1, vy0, vx0, ↓reduceIte, Nat.reduceBEq, Nat.reduceEqDiff, Nat.reduceLT, Nat.reduceLeDiff, Nat.reduceAdd, Nat.reduceMul, Nat.reduceSub, reduceCtorEq, Int.reduceToNat]) | (refine Br.mk (fun h => ?_) (fun h => ?_)) | (refine BrN.mk (fun h => ?_) ?_) | (refine AltVC.mk ?_ ?_)
      exact fin_mk (congrArg D.ag gs_or5)
set_option maxRecDepth 10000 in
set_option maxHeartbeats 4000000 in
theorem gMeets_spec (f g : Nat → Bool) : Dm.Spec Try.prog 78 [.ag (gsD f), .ag (gsD g)] (· = .v (.bool (gMeet f g))) := by
  refine spec_of_vc mixed Try.func78 c78 (by rw [show Try.f78.ntmps = _ from Try.ntmps78]; simp) ?_
  unfold m78 r78
  repeat' first | (refine Br.dec (fun h => ?_) (fun h => ?_) <;> try (exfalso; omega)) | (refine Br.eqi (fun h => ?_) (fun h => ?_) <;> try (exfalso; omega)) | (simp (disch := (first | omega | (simp only [vlen]; first | done | omega))) only [vgl, ↓va0, ↓va1, ↓va2, ↓va3, vb0, vb1, vb2, vb3, vb4, vb5, vb6, vb7, vb8, vb9, vb10, vz0, vz1, vy0, vx0, ↓reduceIte, Nat.reduceBEq, Nat.reduceEqDiff, Nat.reduceLT, Nat.reduceLeDiff, Nat.reduceAdd, Nat.reduceMul, Nat.reduceSub, reduceCtorEq, Int.reduceToNat]) | (refine Br.mk (fun h => ?_) (fun h => ?_)) | (refine BrN.mk (fun h => ?_) ?_) | (refine AltVC.mk ?_ ?_)
  refine LoopVC.mk (X := Nat) (fun i => [(6, iv .i64 i)]) (fun i => [(0, ⟨5, [gsD f], true, false, .fix⟩), (1, ⟨5, [gsD g], true, false, .fix⟩)]) (fun i => 5 - i) (fun i => i ≤ 5 ∧ ∀ j, j < 64 * i → (f j && g j) = false) 0 ⟨by omega, by omega⟩ ?_ ?_
  · (simp (disch := (first | omega | (simp only [vlen]; first | done | omega))) only [Fits_u, Fits_m, Fits_nil, List.length_append, vgl, ↓va0, ↓va1, ↓va2, ↓va3, vb0, vb1, vb2, vb3, vb4, vb5, vb6, vb7, vb8, vb9, vb10, vz0, vz1, vy0, vx0, ↓reduceIte, Nat.reduceBEq, Nat.reduceEqDiff, Nat.reduceLT, Nat.reduceLeDiff, Nat.reduceAdd, Nat.reduceMul, Nat.reduceSub, reduceCtorEq, Int.reduceToNat] <;> (repeat' first | rfl | apply And.intro))
  · rintro i ⟨hi, hno⟩
    by_cases hi5 : i < 5
    · have e := @and64 (gwN f i) (gwN g i) gwN_lt gwN_lt
      have hm := @gw_meet f g i
      by_cases hz : gwN f i &&& gwN g i = 0
      · rw [hz] at e
        repeat' first | (refine Br.dec (fun h => ?_) (fun h => ?_) <;> try (exfalso; omega)) | (refine Br.eqi (fun h => ?_) (fun h => ?_) <;> try (exfalso; omega)) | (simp (disch := (first | omega | (simp only [vlen]; first | done | omega))) only [vgl, Nat.mul_one, e, ↓va0, ↓va1, ↓va2, ↓va3, vb0, vb1, vb2, vb3, vb4, vb5, vb6, vb7, vb8, vb9, vb10, vz0, vz1, vy0, vx0, ↓reduceIte, Nat.reduceBEq, Nat.reduceEqDiff, Nat.reduceLT, Nat.reduceLeDiff, Nat.reduceAdd, Nat.reduceMul, Nat.reduceSub, reduceCtorEq, Int.reduceToNat]) | (refine Br.mk (fun h => ?_) (fun h => ?_)) | (refine BrN.mk (fun h => ?_) ?_) | (refine AltVC.mk ?_ ?_)
        refine loopK.mk (i + 1) (by simp (disch := (first | omega | (simp only [vlen]; first | done | omega))) only [↓va0, ↓va1, ↓va2, ↓va3, vb0, vb1, vb2, vb3, vb4, vb5, vb6, vb7, vb8, vb9, vb10, vz0, vz1, vy0, vx0, ↓reduceIte, Nat.reduceBEq, Nat.reduceEqDiff, Nat.reduceLT, Nat.reduceLeDiff, Nat.reduceAdd, Nat.reduceMul, Nat.reduceSub, reduceCtorEq, Int.reduceToNat]) ⟨by omega, fun j hj => ?_⟩ (by omega) ?_
        · by_cases h : j < 64 * i
          · exact hno j h
          · rw [← Bool.not_eq_true]
            intro h2
            rw [Bool.and_eq_true] at h2
            have h3 : 64 * i + (j - 64 * i) = j := by omega
            exact hm.mpr ⟨j - 64 * i, by omega, by rw [h3]; exact h2.1, by rw [h3]; exact h2.2⟩ hz
        · (simp (disch := (first | omega | (simp only [vlen]; first | done | omega))) only [Fits_u, Fits_m, Fits_nil, List.length_append, vgl, ↓va0, ↓va1, ↓va2, ↓va3, vb0, vb1, vb2, vb3, vb4, vb5, vb6, vb7, vb8, vb9, vb10, vz0, vz1, vy0, vx0, ↓reduceIte, Nat.reduceBEq, Nat.reduceEqDiff, Nat.reduceLT, Nat.reduceLeDiff, Nat.reduceAdd, Nat.reduceMul, Nat.reduceSub, reduceCtorEq, Int.reduceToNat] <;> (repeat' first | rfl | apply And.intro))
      · obtain ⟨j, hj, h1, h2⟩ := hm.mp hz
        have hr : gMeet f g = true := List.any_eq_true.mpr ⟨64 * i + j, List.mem_range.mpr (by omega), by rw [h1, h2]; rfl⟩
        have hz2 : ¬ (((gwN f i &&& gwN g i : Nat) : Int) = 0) := by omega
        repeat' first | (refine Br.dec (fun h => ?_) (fun h => ?_) <;> try (exfalso; omega)) | (refine Br.eqi (fun h => ?_) (fun h => ?_) <;> try (exfalso; omega)) | (simp (disch := (first | omega | (simp only [vlen]; first | done | omega))) only [vgl, Nat.mul_one, e, ↓va0, ↓va1, ↓va2, ↓va3, vb0, vb1, vb2, vb3, vb4, vb5, vb6, vb7, vb8, vb9, vb10, vz0, vz1, vy0, vx0, ↓reduceIte, Nat.reduceBEq, Nat.reduceEqDiff, Nat.reduceLT, Nat.reduceLeDiff, Nat.reduceAdd, Nat.reduceMul, Nat.reduceSub, reduceCtorEq, Int.reduceToNat]) | (refine Br.mk (fun h => ?_) (fun h => ?_)) | (refine BrN.mk (fun h => ?_) ?_) | (refine AltVC.mk ?_ ?_)
        exact fin_mk (vbEq hr.symm)
    · have : i = 5 := by omega
      subst this
      have hr : gMeet f g = false := by
        rw [← Bool.not_eq_true]
        intro h2
        obtain ⟨j, hj, h3⟩ := List.any_eq_true.mp h2
        rw [hno j (List.mem_range.mp hj)] at h3; cases h3
      repeat' first | (refine Br.dec (fun h => ?_) (fun h => ?_) <;> try (exfalso; omega)) | (refine Br.eqi (fun h => ?_) (fun h => ?_) <;> try (exfalso; omega)) | (simp (disch := (first | omega | (simp only [vlen]; first | done | omega))) only [vgl, ↓va0, ↓va1, ↓va2, ↓va3, vb0, vb1, vb2, vb3, vb4, vb5, vb6, vb7, vb8, vb9, vb10, vz0, vz1, vy0, vx0, ↓reduceIte, Nat.reduceBEq, Nat.reduceEqDiff, Nat.reduceLT, Nat.reduceLeDiff, Nat.reduceAdd, Nat.reduceMul, Nat.reduceSub, reduceCtorEq, Int.reduceToNat]) | (refine Br.mk (fun h => ?_) (fun h => ?_)) | (refine BrN.mk (fun h => ?_) ?_) | (refine AltVC.mk ?_ ?_)
      exact fin_mk (vbEq hr.symm)
end Go.Proofs.Ytmhpfgklfpgniaa
