/-
  Machines: the machine of the words that two accept; the law MachineBoth.
-/
import Derived.Test.YtbbpmodfbdibcaaMNot
import Derived.Test.YtbbpmodfbdibcaaTally
namespace Go.Proofs.Ytbbpmodfbdibcaa
open Go.Dm
set_option linter.unusedSimpArgs false
set_option linter.unnecessarySimpa false
set_option linter.unusedVariables false

def rws (K : Nat) (f : Nat → Nat → Int) (p : Nat) : List (List Int) := (List.range p).map fun p => tab K (f p)
theorem rws_len {K : Nat} {f : Nat → Nat → Int} {p : Nat} : (rws K f p).length = p := by simp [rws]
theorem rws_succ {K : Nat} {f : Nat → Nat → Int} {p : Nat} : rws K f (p + 1) = rws K f p ++ [tab K (f p)] := by simp [rws, List.range_succ]
def prodM (n k st : Int) (N : Nat) (f : Nat → Nat → Int) (g : Nat → Bool) : Dm.Machine := ⟨n, k, (List.range N).map fun p => tab k.toNat (f p), st, (setOf g N : Nat)⟩
abbrev mk5 (n k : Int) (nx : List (List Int)) (st f : Int) : List D := [iv .i64 n, iv .i64 k, .sl 1 (rows i64s nx), iv .i64 st, iv .u32 f]
def bf (a b : Dm.Machine) (nb p s : Nat) : Int := (a.next.getD (p / nb) default).getD s 0 * b.n + (b.next.getD (p % nb) default).getD s 0
def bg (a b : Dm.Machine) (nb p : Nat) : Bool := a.final.toNat.testBit (p / nb) && b.final.toNat.testBit (p % nb)
def bothM (a b : Dm.Machine) (na nb : Nat) : Dm.Machine := prodM (na * nb) a.k (a.start * nb + b.start) (na * nb) (bf a b nb) (bg a b nb)
theorem mul_le {x : Int} {na nb : Nat} (hx : 0 ≤ x ∧ x < na) (hna : na ≤ 7) (hnb : nb ≤ 7) : 0 ≤ x * nb ∧ x * nb ≤ 42 := by
  refine ⟨Int.mul_nonneg hx.1 (by omega), ?_⟩
  have := Int.mul_le_mul (show x ≤ 6 by omega) (show (nb : Int) ≤ 7 by omega) (by omega) (by omega)
  omega
theorem dv {nb i j : Nat} (h : j < nb) : (i * nb + j) / nb = i := by
  rw [Nat.mul_comm, Nat.mul_add_div (by omega), Nat.div_eq_of_lt h, Nat.add_zero]
theorem md {nb i j : Nat} (h : j < nb) : (i * nb + j) % nb = j := by
  rw [Nat.mul_comm, Nat.mul_add_mod, Nat.mod_eq_of_lt h]
theorem or_step {g : Nat → Bool} {p : Nat} (hp : p ≤ 6) (h : g p = true) : IntKind.u32.wrap ((BitVec.ofInt IntKind.u32.bits ((setOf g p : Nat) : Int) ||| BitVec.ofInt IntKind.u32.bits (IntKind.u32.wrap (1 * 2 ^ min p IntKind.u32.bits))).toNat : Int) = ((setOf g (p + 1) : Nat) : Int) := by
  have h1 := @setOf_lt g p
  have h2 : 2 ^ p ≤ 2 ^ 6 := Nat.pow_le_pow_right (by omega) hp
  rw [shlN (by omega), or32 (by omega) (by omega), setOf, if_pos h, Int.toNat_natCast, Int.toNat_natCast]
theorem bf_eq {a b : Dm.Machine} {nb i j s : Nat} (hnb : b.n = nb) (h : j < nb) : bf a b nb (i * nb + j) s = (a.next.getD i default).getD s 0 * nb + (b.next.getD j default).getD s 0 := by
  rw [bf, dv h, md h, hnb]
theorem bg_eq {a b : Dm.Machine} {nb i j : Nat} (h : j < nb) : bg a b nb (i * nb + j) = (a.final.toNat.testBit i && b.final.toNat.testBit j) := by
  rw [bg, dv h, md h]
theorem add_step {g : Nat → Bool} {p : Nat} (hp : p < 7) : IntKind.u32.wrap (((setOf g p : Nat) : Int) + IntKind.u32.wrap (1 * 2 ^ min p IntKind.u32.bits)) = ((setOf g p + 2 ^ p : Nat) : Int) := by
  have h1 := @setOf_lt g p
  have h2 : 2 ^ p ≤ 2 ^ 6 := Nat.pow_le_pow_right (by omega) (by omega)
  rw [shlN (by omega), wrapu32_id (by omega)]
  omega
def twoc (a b : Dm.Machine) : Int := if mcode a = 0 then (if mcode b = 0 then (if a.k = b.k then 0 else 3) else mcode b) else mcode a
def twol (a b : Dm.Machine) : Int := if twoc a b = 0 then (if 7 < a.n * b.n then 1 else 0) else twoc a b
set_option maxRecDepth 10000 in
set_option maxHeartbeats 4000000 in
theorem twoCode_spec (a b : Dm.Machine) (hma : a.ok) (hmb : b.ok) : Dm.Spec Try.prog 25 [.ag (macD a), .ag (macD b)] (· = iv .i64 (twoc a b)) := by
  refine spec_of_vc mixed Try.func25 c25 (by rw [show Try.f25.ntmps = _ from Try.ntmps25]; simp) ?_
  unfold m25 r25
  unfold twoc
  repeat' first | (refine Br.dec (fun h => ?_) (fun h => ?_) <;> try (exfalso; omega)) | (refine Br.eqi (fun h => ?_) (fun h => ?_) <;> try (exfalso; omega)) | (simp (disch := (first | omega | (simp only [List.length_cons, List.length_nil, List.length_append, List.length_map, List.length_replicate, List.length_take, List.length_drop, List.length_set, tab_length, tabD_len, i64s_len, bls_len, u8s_len, tbl_len, rows_len]; first | done | omega))) only [↓va0, ↓va1, ↓va2, ↓va3, vb0, vb1, vb2, vb3, vb4, vb5, vb6, vb7, vb8, vb9, vb10, vz0, vz1, vy0, vx0, ↓reduceIte, Nat.reduceBEq, Nat.reduceEqDiff, Nat.reduceLT, Nat.reduceLeDiff, Nat.reduceAdd, Nat.reduceMul, Nat.reduceSub, reduceCtorEq, Int.reduceToNat]) | (refine Br.mk (fun h => ?_) (fun h => ?_)) | (refine BrN.mk (fun h => ?_) ?_) | (refine AltVC.mk ?_ ?_)
  refine CallVC.eq (refMCheck_spec a hma) ?_
  repeat' first | (refine Br.dec (fun h => ?_) (fun h => ?_) <;> try (exfalso; omega)) | (refine Br.eqi (fun h => ?_) (fun h => ?_) <;> try (exfalso; omega)) | (simp (disch := (first | omega | (simp only [List.length_cons, List.length_nil, List.length_append, List.length_map, List.length_replicate, List.length_take, List.length_drop, List.length_set, tab_length, tabD_len, i64s_len, bls_len, u8s_len, tbl_len, rows_len]; first | done | omega))) only [↓va0, ↓va1, ↓va2, ↓va3, vb0, vb1, vb2, vb3, vb4, vb5, vb6, vb7, vb8, vb9, vb10, vz0, vz1, vy0, vx0, ↓reduceIte, Nat.reduceBEq, Nat.reduceEqDiff, Nat.reduceLT, Nat.reduceLeDiff, Nat.reduceAdd, Nat.reduceMul, Nat.reduceSub, reduceCtorEq, Int.reduceToNat]) | (refine Br.mk (fun h => ?_) (fun h => ?_)) | (refine BrN.mk (fun h => ?_) ?_) | (refine AltVC.mk ?_ ?_)
  · refine CallVC.eq (refMCheck_spec b hmb) ?_
    repeat' first | (refine Br.dec (fun h => ?_) (fun h => ?_) <;> try (exfalso; omega)) | (refine Br.eqi (fun h => ?_) (fun h => ?_) <;> try (exfalso; omega)) | (simp (disch := (first | omega | (simp only [List.length_cons, List.length_nil, List.length_append, List.length_map, List.length_replicate, List.length_take, List.length_drop, List.length_set, tab_length, tabD_len, i64s_len, bls_len, u8s_len, tbl_len, rows_len]; first | done | omega))) only [↓va0, ↓va1, ↓va2, ↓va3, vb0, vb1, vb2, vb3, vb4, vb5, vb6, vb7, vb8, vb9, vb10, vz0, vz1, vy0, vx0, ↓reduceIte, Nat.reduceBEq, Nat.reduceEqDiff, Nat.reduceLT, Nat.reduceLeDiff, Nat.reduceAdd, Nat.reduceMul, Nat.reduceSub, reduceCtorEq, Int.reduceToNat]) | (refine Br.mk (fun h => ?_) (fun h => ?_)) | (refine BrN.mk (fun h => ?_) ?_) | (refine AltVC.mk ?_ ?_)
    all_goals exact fin_mk (by simp [*])
  · exact fin_mk (by simp [*])
end Go.Proofs.Ytbbpmodfbdibcaa
