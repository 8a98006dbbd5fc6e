/-
  Nets: where a word leads; the law NetRuns.
-/
import Derived.Test.YtmhpfgklfpgniaaNetChecks
import Derived.Test.YtmhpfgklfpgniaaMRun
import Derived.Test.YtmhpfgklfpgniaaMakes
namespace Go.Proofs.Ytmhpfgklfpgniaa
open Go.Dm
set_option linter.unusedSimpArgs false
set_option linter.unnecessarySimpa false
set_option linter.unusedVariables false
set_option linter.defProp false

structure VN (t : Net) : Prop where
  n : 1 ≤ t.n ∧ t.n ≤ 7
  k : 1 ≤ t.k ∧ t.k ≤ 3
  al : t.arcs.length ≤ 60
  arc : ∀ a, a ∈ t.arcs → 0 ≤ a.fr ∧ a.fr < t.n ∧ 0 ≤ a.to ∧ a.to < t.n ∧ -1 ≤ a.sym ∧ a.sym < t.k
  st : 0 ≤ t.start ∧ t.start.toNat < 2 ^ t.n.toNat
  fi : 0 ≤ t.final ∧ t.final.toNat < 2 ^ t.n.toNat
theorem vn_of {n : Net} (h : netCode n = 0) (hn : n.ok) : VN n := by
  unfold netCode at h
  split at h
  · omega
  · split at h
    · omega
    · split at h
      · omega
      · next h1 h2 h3 =>
        unfold netLarge at h1
        have hs : 0 ≤ n.start := hn.2.2.2.1.1
        have hf : 0 ≤ n.final := hn.2.2.2.2.1
        have e2 : (2 : Int) ^ n.n.toNat = ((2 ^ n.n.toNat : Nat) : Int) := by simp
        rw [e2] at h3
        refine ⟨by omega, by omega, by omega, fun a ha => ?_, by omega, by omega⟩
        have : ¬ badArc n a := fun hb => h2 ⟨a, ha, hb⟩
        unfold badArc at this
        omega
theorem VN.arcD {n : Net} (hv : VN n) {i : Nat} (hi : i < n.arcs.length) : 0 ≤ (n.arcs.getD i default).fr ∧ (n.arcs.getD i default).fr < n.n ∧ 0 ≤ (n.arcs.getD i default).to ∧ (n.arcs.getD i default).to < n.n ∧ -1 ≤ (n.arcs.getD i default).sym ∧ (n.arcs.getD i default).sym < n.k := hv.arc _ (getD_mem' hi)

/-- One arc without a symbol. -/
def stl (S : Nat) (a : Arc) : Nat := if a.sym < 0 ∧ S.testBit a.fr.toNat = true then S ||| 2 ^ a.to.toNat else S
def npass (n : Net) (S : Nat) : Nat := n.arcs.foldl stl S
def nit (n : Net) (S : Nat) : Nat → Nat
  | 0 => S
  | k + 1 => npass n (nit n S k)
def ncl (n : Net) (S : Nat) : Nat := nit n S n.n.toNat
/-- One arc with a symbol. -/
def mvA (s : Int) (S T : Nat) (a : Arc) : Nat := if a.sym = s ∧ S.testBit a.fr.toNat = true then T ||| 2 ^ a.to.toNat else T
def ngo (n : Net) (S : Nat) (s : Int) : Nat := n.arcs.foldl (mvA s S) 0
def nstp (n : Net) (S : Nat) (s : Int) : Nat := ncl n (ngo n S s)
def nrun (n : Net) (w : List Int) : Nat := w.foldl (nstp n) (ncl n n.start.toNat)
theorem fold_lt {n : Net} (hv : VN n) {f : Nat → Arc → Nat} (hf : ∀ S a, a ∈ n.arcs → S < 2 ^ n.n.toNat → f S a < 2 ^ n.n.toNat) : ∀ (i : Nat) {S : Nat}, S < 2 ^ n.n.toNat → (n.arcs.take i).foldl f S < 2 ^ n.n.toNat := by
  intro i S hS
  have : ∀ (l : List Arc) (S : Nat), (∀ a, a ∈ l → a ∈ n.arcs) → S < 2 ^ n.n.toNat → l.foldl f S < 2 ^ n.n.toNat := by
    intro l
    induction l with
    | nil => intro S _ h; exact h
    | cons a l ih => intro S hl h; exact ih _ (fun b hb => hl b (by simp [hb])) (hf S a (hl a (by simp)) h)
  exact this _ S (fun a ha => List.mem_of_mem_take ha) hS
theorem stl_lt {n : Net} (hv : VN n) {S : Nat} {a : Arc} (ha : a ∈ n.arcs) (h : S < 2 ^ n.n.toNat) : stl S a < 2 ^ n.n.toNat := by
  unfold stl
  have := hv.arc a ha
  split
  · exact or_two_lt h (by omega)
  · exact h
theorem mvA_lt {n : Net} (hv : VN n) {s : Int} {S T : Nat} {a : Arc} (ha : a ∈ n.arcs) (h : T < 2 ^ n.n.toNat) : mvA s S T a < 2 ^ n.n.toNat := by
  unfold mvA
  have := hv.arc a ha
  split
  · exact or_two_lt h (by omega)
  · exact h
theorem npass_lt {n : Net} (hv : VN n) {S : Nat} (h : S < 2 ^ n.n.toNat) : npass n S < 2 ^ n.n.toNat := by
  have := fold_lt hv (f := stl) (fun S a ha h => stl_lt hv ha h) n.arcs.length h
  rwa [List.take_length] at this
theorem nit_lt {n : Net} (hv : VN n) {S : Nat} (h : S < 2 ^ n.n.toNat) : ∀ k, nit n S k < 2 ^ n.n.toNat
  | 0 => h
  | k + 1 => npass_lt hv (nit_lt hv h k)
theorem ngo_lt {n : Net} (hv : VN n) {S : Nat} {s : Int} : ngo n S s < 2 ^ n.n.toNat := by
  have := fold_lt hv (f := mvA s S) (fun T a ha h => mvA_lt hv ha h) n.arcs.length (S := 0) (Nat.pow_pos (by omega))
  rwa [List.take_length] at this
theorem ncl_lt {n : Net} (hv : VN n) {S : Nat} (h : S < 2 ^ n.n.toNat) : ncl n S < 2 ^ n.n.toNat := nit_lt hv h _
theorem nstp_lt {n : Net} (hv : VN n) {S : Nat} {s : Int} : nstp n S s < 2 ^ n.n.toNat := ncl_lt hv (ngo_lt hv)
theorem nrun_lt {n : Net} (hv : VN n) {w : List Int} : nrun n w < 2 ^ n.n.toNat := by
  unfold nrun
  rcases List.eq_nil_or_concat w with rfl | ⟨l, s, rfl⟩
  · exact ncl_lt hv hv.st.2
  · rw [List.concat_eq_append, List.foldl_append]; exact nstp_lt hv
theorem nrun_succ {n : Net} {w : List Int} {i : Nat} (hi : i < w.length) : nrun n (w.take (i + 1)) = nstp n (nrun n (w.take i)) (w.getD i 0) := by
  unfold nrun
  rw [take_succ_getD hi 0, List.foldl_append]; rfl
theorem fold_succ {α : Type} {f : α → Arc → α} {x : α} {l : List Arc} {i : Nat} (hi : i < l.length) : (l.take (i + 1)).foldl f x = f ((l.take i).foldl f x) (l.getD i default) := by
  rw [take_succ_getD hi default, List.foldl_append]; rfl
theorem stl_le {S : Nat} {a : Arc} {x : Nat} (h : S.testBit x = true) : (stl S a).testBit x = true := by
  unfold stl
  split
  · rw [or_bit, h]; rfl
  · exact h
theorem npass_le {n : Net} {S x : Nat} (h : S.testBit x = true) : (npass n S).testBit x = true := by
  have : ∀ (l : List Arc) (S : Nat), S.testBit x = true → (l.foldl stl S).testBit x = true := by
    intro l
    induction l with
    | nil => intro S h; exact h
    | cons a l ih => intro S h; exact ih _ (stl_le h)
  exact this _ S h
theorem nit_stable {n : Net} (hv : VN n) {S : Nat} (h : S < 2 ^ n.n.toNat) {k : Nat} (hk : n.n.toNat ≤ k) : nit n S k = ncl n S := by
  have key := chain_stable (n := n.n.toNat) (fun k x => (nit n S k).testBit x) (fun f x => (npass n (setOf f n.n.toNat)).testBit x)
    (fun a b hab x _ => by
      have : setOf a n.n.toNat = setOf b n.n.toNat := set_ext setOf_lt fun i hi => by rw [setOf_bit, decide_eq_true hi, Bool.true_and, hab i hi]
      rw [this])
    (fun k x => by
      have : nit n S k = setOf (fun x => (nit n S k).testBit x) n.n.toNat := set_ext (nit_lt hv h k) fun i _ => rfl
      show (npass n (nit n S k)).testBit x = _
      conv => lhs; rw [this])
    (fun k x hx => npass_le hx)
  have e1 : nit n S k = setOf (fun x => (nit n S n.n.toNat).testBit x) n.n.toNat := set_ext (nit_lt hv h k) fun i hi => key i hi k hk
  have e2 : ncl n S = setOf (fun x => (nit n S n.n.toNat).testBit x) n.n.toNat := set_ext (nit_lt hv h _) fun i _ => rfl
  rw [e1, e2]
theorem nit_still {n : Net} (hv : VN n) {S : Nat} (h : S < 2 ^ n.n.toNat) {k : Nat} (hk : nit n S (k + 1) = nit n S k) : nit n S k = ncl n S := by
  have : ∀ j, nit n S (k + j) = nit n S k := by
    intro j
    induction j with
    | zero => rfl
    | succ j ih => show npass n (nit n S (k + j)) = _; rw [ih]; exact hk
  rw [← this n.n.toNat]
  exact nit_stable hv h (by omega)
theorem n32 {n : Net} (hv : VN n) {S : Nat} (h : S < 2 ^ n.n.toNat) : (0 : Int) ≤ (S : Int) ∧ (S : Int) ≤ 4294967295 := small32 h (by have := hv.n; omega)
theorem VN.fin_pos {n : Net} (hv : VN n) : (n.final.toNat : Int) = n.final := by have := hv.fi; omega

theorem nacc_eq {n : Net} (hv : VN n) {S : Nat} (hS : S < 2 ^ n.n.toNat) : (IntKind.u32.wrap ((BitVec.ofInt IntKind.u32.bits (S : Int) &&& BitVec.ofInt IntKind.u32.bits n.final).toNat : Int) != 0) = decide (S &&& n.final.toNat ≠ 0) := by
  have h1 := n32 hv hS
  have h2 := n32 hv hv.fi.2
  have h3 := hv.fi
  rw [and32 h1 (by omega), Int.toNat_natCast]
  generalize S &&& n.final.toNat = q
  by_cases h : q = 0
  · subst h; rfl
  · rw [decide_eq_true h]
    have : ¬ ((q : Int) = 0) := by omega
    simpa using h
set_option maxRecDepth 10000 in
set_option maxHeartbeats 4000000 in
theorem ref_free_spec (n : Net) (hv : VN n) (S : Nat) (hS : S < 2 ^ n.n.toNat) : Dm.Spec Try.prog 47 [.ag (netD n), iv .u32 S] (· = iv .u32 (ncl n S)) := by
  refine spec_of_vc mixed Try.func47 c47 (by rw [show Try.f47.ntmps = _ from Try.ntmps47]; simp) ?_
  unfold m47 r47
  have hn := hv.n
  have hal := hv.al
  repeat' first | (refine Br.dec (fun h => ?_) (fun h => ?_) <;> try (exfalso; omega)) | (refine Br.eqi (fun h => ?_) (fun h => ?_) <;> try (exfalso; omega)) | (simp (disch := (first | omega | (simp only [vlen]; first | done | omega))) only [↓va0, ↓va1, ↓va2, ↓va3, vb0, vb1, vb2, vb3, vb4, vb5, vb6, vb7, vb8, vb9, vb10, vz0, vz1, vy0, vx0, ↓reduceIte, Nat.reduceBEq, Nat.reduceEqDiff, Nat.reduceLT, Nat.reduceLeDiff, Nat.reduceAdd, Nat.reduceMul, Nat.reduceSub, reduceCtorEq, Int.reduceToNat]) | (refine Br.mk (fun h => ?_) (fun h => ?_)) | (refine BrN.mk (fun h => ?_) ?_) | (refine AltVC.mk ?_ ?_)
  refine LoopVC.mk (X := Nat) (fun k => [(1, iv .u32 (nit n S k)), (5, iv .i64 k)]) (fun _ => [(0, ⟨5, [netD n], true, false, .fix⟩)]) (fun k => n.n.toNat - k) (fun k => k ≤ n.n.toNat) 0 (by omega) ?_ ?_
  · (simp (disch := (first | omega | (simp only [vlen]; first | done | omega))) only [Fits_u, Fits_m, Fits_nil, List.length_append, ↓va0, ↓va1, ↓va2, ↓va3, vb0, vb1, vb2, vb3, vb4, vb5, vb6, vb7, vb8, vb9, vb10, vz0, vz1, vy0, vx0, ↓reduceIte, Nat.reduceBEq, Nat.reduceEqDiff, Nat.reduceLT, Nat.reduceLeDiff, Nat.reduceAdd, Nat.reduceMul, Nat.reduceSub, reduceCtorEq, Int.reduceToNat] <;> (repeat' first | rfl | apply And.intro))
  · intro k hk
    repeat' first | (refine Br.dec (fun h => ?_) (fun h => ?_) <;> try (exfalso; omega)) | (refine Br.eqi (fun h => ?_) (fun h => ?_) <;> try (exfalso; omega)) | (simp (disch := (first | omega | (simp only [vlen]; first | done | omega))) only [↓va0, ↓va1, ↓va2, ↓va3, vb0, vb1, vb2, vb3, vb4, vb5, vb6, vb7, vb8, vb9, vb10, vz0, vz1, vy0, vx0, ↓reduceIte, Nat.reduceBEq, Nat.reduceEqDiff, Nat.reduceLT, Nat.reduceLeDiff, Nat.reduceAdd, Nat.reduceMul, Nat.reduceSub, reduceCtorEq, Int.reduceToNat]) | (refine Br.mk (fun h => ?_) (fun h => ?_)) | (refine BrN.mk (fun h => ?_) ?_) | (refine AltVC.mk ?_ ?_)
    · refine LoopVC.mk (X := Nat) (fun i => [(1, iv .u32 ((n.arcs.take i).foldl stl (nit n S k) : Nat)), (17, iv .i64 i)]) (fun _ => [(0, ⟨5, [netD n], true, false, .fix⟩)]) (fun i => n.arcs.length - i) (fun i => i ≤ n.arcs.length) 0 (by omega) ?_ ?_
      · (simp (disch := (first | omega | (simp only [vlen]; first | done | omega))) only [Fits_u, Fits_m, Fits_nil, List.length_append, ↓va0, ↓va1, ↓va2, ↓va3, vb0, vb1, vb2, vb3, vb4, vb5, vb6, vb7, vb8, vb9, vb10, vz0, vz1, vy0, vx0, ↓reduceIte, Nat.reduceBEq, Nat.reduceEqDiff, Nat.reduceLT, Nat.reduceLeDiff, Nat.reduceAdd, Nat.reduceMul, Nat.reduceSub, reduceCtorEq, Int.reduceToNat] <;> (repeat' first | rfl | apply And.intro))
      · intro i hi
        have hlt := fold_lt hv (f := stl) (fun S a ha h => stl_lt hv ha h) i (nit_lt hv hS k)
        have h32 := n32 hv hlt
        by_cases hil : i < n.arcs.length
        · have ha := hv.arcD hil
          have hs := fold_succ (f := stl) (x := nit n S k) hil
          have hp2 := @pow_le31 (n.arcs.getD i default).to.toNat (by omega)
          repeat' first | (refine Br.dec (fun h => ?_) (fun h => ?_) <;> try (exfalso; omega)) | (refine Br.eqi (fun h => ?_) (fun h => ?_) <;> try (exfalso; omega)) | (simp (disch := (first | omega | (simp only [vlen]; first | done | omega))) only [↓va0, ↓va1, ↓va2, ↓va3, vb0, vb1, vb2, vb3, vb4, vb5, vb6, vb7, vb8, vb9, vb10, vz0, vz1, vy0, vx0, ↓reduceIte, Nat.reduceBEq, Nat.reduceEqDiff, Nat.reduceLT, Nat.reduceLeDiff, Nat.reduceAdd, Nat.reduceMul, Nat.reduceSub, reduceCtorEq, Int.reduceToNat]) | (refine Br.mk (fun h => ?_) (fun h => ?_)) | (refine BrN.mk (fun h => ?_) ?_) | (refine AltVC.mk ?_ ?_)
          · refine CallVC.eqo (bit_i ((n.arcs.take i).foldl stl (nit n S k) : Nat) (n.arcs.getD i default).fr (by omega) (by omega)) (by simp (disch := (first | omega | (simp only [vlen]; first | done | omega))) only [↓va0, ↓va1, ↓va2, ↓va3, vb0, vb1, vb2, vb3, vb4, vb5, vb6, vb7, vb8, vb9, vb10, vz0, vz1, vy0, vx0, ↓reduceIte, Nat.reduceBEq, Nat.reduceEqDiff, Nat.reduceLT, Nat.reduceLeDiff, Nat.reduceAdd, Nat.reduceMul, Nat.reduceSub, reduceCtorEq, Int.reduceToNat]) ?_
            repeat' first | (refine Br.dec (fun h => ?_) (fun h => ?_) <;> try (exfalso; omega)) | (refine Br.eqi (fun h => ?_) (fun h => ?_) <;> try (exfalso; omega)) | (simp (disch := (first | omega | (simp only [vlen]; first | done | omega))) only [↓va0, ↓va1, ↓va2, ↓va3, vb0, vb1, vb2, vb3, vb4, vb5, vb6, vb7, vb8, vb9, vb10, vz0, vz1, vy0, vx0, ↓reduceIte, Nat.reduceBEq, Nat.reduceEqDiff, Nat.reduceLT, Nat.reduceLeDiff, Nat.reduceAdd, Nat.reduceMul, Nat.reduceSub, reduceCtorEq, Int.reduceToNat]) | (refine Br.mk (fun h => ?_) (fun h => ?_)) | (refine BrN.mk (fun h => ?_) ?_) | (refine AltVC.mk ?_ ?_)
            · rw [shlN (by omega), orN (by omega) (by omega)]
              refine loopK.mk (i + 1) (by simp (disch := (first | omega | (simp only [vlen]; first | done | omega))) only [↓va0, ↓va1, ↓va2, ↓va3, vb0, vb1, vb2, vb3, vb4, vb5, vb6, vb7, vb8, vb9, vb10, vz0, vz1, vy0, vx0, ↓reduceIte, Nat.reduceBEq, Nat.reduceEqDiff, Nat.reduceLT, Nat.reduceLeDiff, Nat.reduceAdd, Nat.reduceMul, Nat.reduceSub, reduceCtorEq, Int.reduceToNat]) (by omega) (by omega) ?_
              (simp (disch := (first | omega | (simp only [vlen]; first | done | omega))) only [Fits_u, Fits_m, Fits_nil, List.length_append, ↓va0, ↓va1, ↓va2, ↓va3, vb0, vb1, vb2, vb3, vb4, vb5, vb6, vb7, vb8, vb9, vb10, vz0, vz1, vy0, vx0, ↓reduceIte, Nat.reduceBEq, Nat.reduceEqDiff, Nat.reduceLT, Nat.reduceLeDiff, Nat.reduceAdd, Nat.reduceMul, Nat.reduceSub, reduceCtorEq, Int.reduceToNat] <;> (repeat' first | rfl | apply And.intro))
              rw [hs, stl, if_pos ⟨by omega, by assumption⟩]
            · have hb : ((n.arcs.take i).foldl stl (nit n S k)).testBit (n.arcs.getD i default).fr.toNat = false := by assumption
              refine loopK.mk (i + 1) (by simp (disch := (first | omega | (simp only [vlen]; first | done | omega))) only [↓va0, ↓va1, ↓va2, ↓va3, vb0, vb1, vb2, vb3, vb4, vb5, vb6, vb7, vb8, vb9, vb10, vz0, vz1, vy0, vx0, ↓reduceIte, Nat.reduceBEq, Nat.reduceEqDiff, Nat.reduceLT, Nat.reduceLeDiff, Nat.reduceAdd, Nat.reduceMul, Nat.reduceSub, reduceCtorEq, Int.reduceToNat]) (by omega) (by omega) ?_
              (simp (disch := (first | omega | (simp only [vlen]; first | done | omega))) only [Fits_u, Fits_m, Fits_nil, List.length_append, ↓va0, ↓va1, ↓va2, ↓va3, vb0, vb1, vb2, vb3, vb4, vb5, vb6, vb7, vb8, vb9, vb10, vz0, vz1, vy0, vx0, ↓reduceIte, Nat.reduceBEq, Nat.reduceEqDiff, Nat.reduceLT, Nat.reduceLeDiff, Nat.reduceAdd, Nat.reduceMul, Nat.reduceSub, reduceCtorEq, Int.reduceToNat] <;> (repeat' first | rfl | apply And.intro))
              rw [hs, stl, if_neg (fun h => by rw [hb] at h; cases h.2)]
          · refine loopK.mk (i + 1) (by simp (disch := (first | omega | (simp only [vlen]; first | done | omega))) only [↓va0, ↓va1, ↓va2, ↓va3, vb0, vb1, vb2, vb3, vb4, vb5, vb6, vb7, vb8, vb9, vb10, vz0, vz1, vy0, vx0, ↓reduceIte, Nat.reduceBEq, Nat.reduceEqDiff, Nat.reduceLT, Nat.reduceLeDiff, Nat.reduceAdd, Nat.reduceMul, Nat.reduceSub, reduceCtorEq, Int.reduceToNat]) (by omega) (by omega) ?_
            (simp (disch := (first | omega | (simp only [vlen]; first | done | omega))) only [Fits_u, Fits_m, Fits_nil, List.length_append, ↓va0, ↓va1, ↓va2, ↓va3, vb0, vb1, vb2, vb3, vb4, vb5, vb6, vb7, vb8, vb9, vb10, vz0, vz1, vy0, vx0, ↓reduceIte, Nat.reduceBEq, Nat.reduceEqDiff, Nat.reduceLT, Nat.reduceLeDiff, Nat.reduceAdd, Nat.reduceMul, Nat.reduceSub, reduceCtorEq, Int.reduceToNat] <;> (repeat' first | rfl | apply And.intro))
            rw [hs, stl, if_neg (by omega)]
        · have ei : i = n.arcs.length := by omega
          subst ei
          repeat' first | (refine Br.dec (fun h => ?_) (fun h => ?_) <;> try (exfalso; omega)) | (refine Br.eqi (fun h => ?_) (fun h => ?_) <;> try (exfalso; omega)) | (simp (disch := (first | omega | (simp only [vlen]; first | done | omega))) only [↓va0, ↓va1, ↓va2, ↓va3, vb0, vb1, vb2, vb3, vb4, vb5, vb6, vb7, vb8, vb9, vb10, vz0, vz1, vy0, vx0, ↓reduceIte, Nat.reduceBEq, Nat.reduceEqDiff, Nat.reduceLT, Nat.reduceLeDiff, Nat.reduceAdd, Nat.reduceMul, Nat.reduceSub, reduceCtorEq, Int.reduceToNat]) | (refine Br.mk (fun h => ?_) (fun h => ?_)) | (refine BrN.mk (fun h => ?_) ?_) | (refine AltVC.mk ?_ ?_)
          refine loopK.mk (k + 1) (by simp (disch := (first | omega | (simp only [vlen]; first | done | omega))) only [↓va0, ↓va1, ↓va2, ↓va3, vb0, vb1, vb2, vb3, vb4, vb5, vb6, vb7, vb8, vb9, vb10, vz0, vz1, vy0, vx0, ↓reduceIte, Nat.reduceBEq, Nat.reduceEqDiff, Nat.reduceLT, Nat.reduceLeDiff, Nat.reduceAdd, Nat.reduceMul, Nat.reduceSub, reduceCtorEq, Int.reduceToNat]) (by omega) (by omega) ?_
          (simp (disch := (first | omega | (simp only [vlen]; first | done | omega))) only [Fits_u, Fits_m, Fits_nil, List.length_append, ↓va0, ↓va1, ↓va2, ↓va3, vb0, vb1, vb2, vb3, vb4, vb5, vb6, vb7, vb8, vb9, vb10, vz0, vz1, vy0, vx0, ↓reduceIte, Nat.reduceBEq, Nat.reduceEqDiff, Nat.reduceLT, Nat.reduceLeDiff, Nat.reduceAdd, Nat.reduceMul, Nat.reduceSub, reduceCtorEq, Int.reduceToNat] <;> (repeat' first | rfl | apply And.intro))
    · refine fin_mk (viEq ?_)
      rw [show k = n.n.toNat by omega]; rfl
set_option maxRecDepth 10000 in
set_option maxHeartbeats 4000000 in
theorem netLeads_spec (n : Net) (hv : VN n) (w : List Int) (hw : w.length ≤ 1000000) : Dm.Spec Try.prog 29 [.ag (netD n), .sl 1 (i64s w)] (· = iv .u32 (nrun n w)) := by
  refine spec_of_vc mixed Try.func29 c29 (by rw [show Try.f29.ntmps = _ from Try.ntmps29]; simp) ?_
  unfold m29 r29
  have hn := hv.n
  have hal := hv.al
  have hst : (n.start.toNat : Int) = n.start := by have := hv.st; omega
  repeat' first | (refine Br.dec (fun h => ?_) (fun h => ?_) <;> try (exfalso; omega)) | (refine Br.eqi (fun h => ?_) (fun h => ?_) <;> try (exfalso; omega)) | (simp (disch := (first | omega | (simp only [vlen]; first | done | omega))) only [↓va0, ↓va1, ↓va2, ↓va3, vb0, vb1, vb2, vb3, vb4, vb5, vb6, vb7, vb8, vb9, vb10, vz0, vz1, vy0, vx0, ↓reduceIte, Nat.reduceBEq, Nat.reduceEqDiff, Nat.reduceLT, Nat.reduceLeDiff, Nat.reduceAdd, Nat.reduceMul, Nat.reduceSub, reduceCtorEq, Int.reduceToNat]) | (refine Br.mk (fun h => ?_) (fun h => ?_)) | (refine BrN.mk (fun h => ?_) ?_) | (refine AltVC.mk ?_ ?_)
  have hfs := ref_free_spec n hv n.start.toNat hv.st.2
  rw [hst] at hfs
  refine CallVC.eqo hfs (by simp (disch := (first | omega | (simp only [vlen]; first | done | omega))) only [↓va0, ↓va1, ↓va2, ↓va3, vb0, vb1, vb2, vb3, vb4, vb5, vb6, vb7, vb8, vb9, vb10, vz0, vz1, vy0, vx0, ↓reduceIte, Nat.reduceBEq, Nat.reduceEqDiff, Nat.reduceLT, Nat.reduceLeDiff, Nat.reduceAdd, Nat.reduceMul, Nat.reduceSub, reduceCtorEq, Int.reduceToNat]) ?_
  repeat' first | (refine Br.dec (fun h => ?_) (fun h => ?_) <;> try (exfalso; omega)) | (refine Br.eqi (fun h => ?_) (fun h => ?_) <;> try (exfalso; omega)) | (simp (disch := (first | omega | (simp only [vlen]; first | done | omega))) only [↓va0, ↓va1, ↓va2, ↓va3, vb0, vb1, vb2, vb3, vb4, vb5, vb6, vb7, vb8, vb9, vb10, vz0, vz1, vy0, vx0, ↓reduceIte, Nat.reduceBEq, Nat.reduceEqDiff, Nat.reduceLT, Nat.reduceLeDiff, Nat.reduceAdd, Nat.reduceMul, Nat.reduceSub, reduceCtorEq, Int.reduceToNat]) | (refine Br.mk (fun h => ?_) (fun h => ?_)) | (refine BrN.mk (fun h => ?_) ?_) | (refine AltVC.mk ?_ ?_)
  refine LoopVC.mk (X := Nat) (fun k => [(5, iv .u32 (nrun n (w.take k))), (17, iv .i64 k)]) (fun _ => [(0, ⟨5, [netD n], true, false, .fix⟩)]) (fun k => w.length - k) (fun k => k ≤ w.length) 0 (by omega) ?_ ?_
  · (simp (disch := (first | omega | (simp only [vlen]; first | done | omega))) only [Fits_u, Fits_m, Fits_nil, List.length_append, ↓va0, ↓va1, ↓va2, ↓va3, vb0, vb1, vb2, vb3, vb4, vb5, vb6, vb7, vb8, vb9, vb10, vz0, vz1, vy0, vx0, ↓reduceIte, Nat.reduceBEq, Nat.reduceEqDiff, Nat.reduceLT, Nat.reduceLeDiff, Nat.reduceAdd, Nat.reduceMul, Nat.reduceSub, reduceCtorEq, Int.reduceToNat] <;> (repeat' first | rfl | apply And.intro))
  · intro k hk
    have hSl := nrun_lt hv (w := w.take k)
    have hS32 := n32 hv hSl
    by_cases hkl : k < w.length
    · have hr := nrun_succ (n := n) hkl
      repeat' first | (refine Br.dec (fun h => ?_) (fun h => ?_) <;> try (exfalso; omega)) | (refine Br.eqi (fun h => ?_) (fun h => ?_) <;> try (exfalso; omega)) | (simp (disch := (first | omega | (simp only [vlen]; first | done | omega))) only [↓va0, ↓va1, ↓va2, ↓va3, vb0, vb1, vb2, vb3, vb4, vb5, vb6, vb7, vb8, vb9, vb10, vz0, vz1, vy0, vx0, ↓reduceIte, Nat.reduceBEq, Nat.reduceEqDiff, Nat.reduceLT, Nat.reduceLeDiff, Nat.reduceAdd, Nat.reduceMul, Nat.reduceSub, reduceCtorEq, Int.reduceToNat]) | (refine Br.mk (fun h => ?_) (fun h => ?_)) | (refine BrN.mk (fun h => ?_) ?_) | (refine AltVC.mk ?_ ?_)
      refine LoopVC.mk (X := Nat) (fun i => [(8, iv .u32 ((n.arcs.take i).foldl (mvA (w.getD k 0) (nrun n (w.take k))) 0 : Nat)), (24, iv .i64 i)]) (fun _ => [(0, ⟨5, [netD n], true, false, .fix⟩)]) (fun i => n.arcs.length - i) (fun i => i ≤ n.arcs.length) 0 (by omega) ?_ ?_
      · (simp (disch := (first | omega | (simp only [vlen]; first | done | omega))) only [Fits_u, Fits_m, Fits_nil, List.length_append, ↓va0, ↓va1, ↓va2, ↓va3, vb0, vb1, vb2, vb3, vb4, vb5, vb6, vb7, vb8, vb9, vb10, vz0, vz1, vy0, vx0, ↓reduceIte, Nat.reduceBEq, Nat.reduceEqDiff, Nat.reduceLT, Nat.reduceLeDiff, Nat.reduceAdd, Nat.reduceMul, Nat.reduceSub, reduceCtorEq, Int.reduceToNat] <;> (repeat' first | rfl | apply And.intro))
      · intro i hi
        have hlt := fold_lt hv (f := mvA (w.getD k 0) (nrun n (w.take k))) (fun T a ha h => mvA_lt hv ha h) i (S := 0) (Nat.pow_pos (by omega))
        have h32 := n32 hv hlt
        by_cases hil : i < n.arcs.length
        · have ha := hv.arcD hil
          have hs := fold_succ (f := mvA (w.getD k 0) (nrun n (w.take k))) (x := 0) hil
          have hp2 := @pow_le31 (n.arcs.getD i default).to.toNat (by omega)
          repeat' first | (refine Br.dec (fun h => ?_) (fun h => ?_) <;> try (exfalso; omega)) | (refine Br.eqi (fun h => ?_) (fun h => ?_) <;> try (exfalso; omega)) | (simp (disch := (first | omega | (simp only [vlen]; first | done | omega))) only [↓va0, ↓va1, ↓va2, ↓va3, vb0, vb1, vb2, vb3, vb4, vb5, vb6, vb7, vb8, vb9, vb10, vz0, vz1, vy0, vx0, ↓reduceIte, Nat.reduceBEq, Nat.reduceEqDiff, Nat.reduceLT, Nat.reduceLeDiff, Nat.reduceAdd, Nat.reduceMul, Nat.reduceSub, reduceCtorEq, Int.reduceToNat]) | (refine Br.mk (fun h => ?_) (fun h => ?_)) | (refine BrN.mk (fun h => ?_) ?_) | (refine AltVC.mk ?_ ?_)
          · refine CallVC.eqo (bit_i (nrun n (w.take k) : Nat) (n.arcs.getD i default).fr (by omega) (by omega)) (by simp (disch := (first | omega | (simp only [vlen]; first | done | omega))) only [↓va0, ↓va1, ↓va2, ↓va3, vb0, vb1, vb2, vb3, vb4, vb5, vb6, vb7, vb8, vb9, vb10, vz0, vz1, vy0, vx0, ↓reduceIte, Nat.reduceBEq, Nat.reduceEqDiff, Nat.reduceLT, Nat.reduceLeDiff, Nat.reduceAdd, Nat.reduceMul, Nat.reduceSub, reduceCtorEq, Int.reduceToNat]) ?_
            repeat' first | (refine Br.dec (fun h => ?_) (fun h => ?_) <;> try (exfalso; omega)) | (refine Br.eqi (fun h => ?_) (fun h => ?_) <;> try (exfalso; omega)) | (simp (disch := (first | omega | (simp only [vlen]; first | done | omega))) only [↓va0, ↓va1, ↓va2, ↓va3, vb0, vb1, vb2, vb3, vb4, vb5, vb6, vb7, vb8, vb9, vb10, vz0, vz1, vy0, vx0, ↓reduceIte, Nat.reduceBEq, Nat.reduceEqDiff, Nat.reduceLT, Nat.reduceLeDiff, Nat.reduceAdd, Nat.reduceMul, Nat.reduceSub, reduceCtorEq, Int.reduceToNat]) | (refine Br.mk (fun h => ?_) (fun h => ?_)) | (refine BrN.mk (fun h => ?_) ?_) | (refine AltVC.mk ?_ ?_)
            · rw [shlN (by omega), orN (by omega) (by omega)]
              refine loopK.mk (i + 1) (by simp (disch := (first | omega | (simp only [vlen]; first | done | omega))) only [↓va0, ↓va1, ↓va2, ↓va3, vb0, vb1, vb2, vb3, vb4, vb5, vb6, vb7, vb8, vb9, vb10, vz0, vz1, vy0, vx0, ↓reduceIte, Nat.reduceBEq, Nat.reduceEqDiff, Nat.reduceLT, Nat.reduceLeDiff, Nat.reduceAdd, Nat.reduceMul, Nat.reduceSub, reduceCtorEq, Int.reduceToNat]) (by omega) (by omega) ?_
              (simp (disch := (first | omega | (simp only [vlen]; first | done | omega))) only [Fits_u, Fits_m, Fits_nil, List.length_append, ↓va0, ↓va1, ↓va2, ↓va3, vb0, vb1, vb2, vb3, vb4, vb5, vb6, vb7, vb8, vb9, vb10, vz0, vz1, vy0, vx0, ↓reduceIte, Nat.reduceBEq, Nat.reduceEqDiff, Nat.reduceLT, Nat.reduceLeDiff, Nat.reduceAdd, Nat.reduceMul, Nat.reduceSub, reduceCtorEq, Int.reduceToNat] <;> (repeat' first | rfl | apply And.intro))
              rw [hs, mvA, if_pos ⟨by omega, by assumption⟩]
            · have hb : (nrun n (w.take k)).testBit (n.arcs.getD i default).fr.toNat = false := by assumption
              refine loopK.mk (i + 1) (by simp (disch := (first | omega | (simp only [vlen]; first | done | omega))) only [↓va0, ↓va1, ↓va2, ↓va3, vb0, vb1, vb2, vb3, vb4, vb5, vb6, vb7, vb8, vb9, vb10, vz0, vz1, vy0, vx0, ↓reduceIte, Nat.reduceBEq, Nat.reduceEqDiff, Nat.reduceLT, Nat.reduceLeDiff, Nat.reduceAdd, Nat.reduceMul, Nat.reduceSub, reduceCtorEq, Int.reduceToNat]) (by omega) (by omega) ?_
              (simp (disch := (first | omega | (simp only [vlen]; first | done | omega))) only [Fits_u, Fits_m, Fits_nil, List.length_append, ↓va0, ↓va1, ↓va2, ↓va3, vb0, vb1, vb2, vb3, vb4, vb5, vb6, vb7, vb8, vb9, vb10, vz0, vz1, vy0, vx0, ↓reduceIte, Nat.reduceBEq, Nat.reduceEqDiff, Nat.reduceLT, Nat.reduceLeDiff, Nat.reduceAdd, Nat.reduceMul, Nat.reduceSub, reduceCtorEq, Int.reduceToNat] <;> (repeat' first | rfl | apply And.intro))
              rw [hs, mvA, if_neg (fun h => by rw [hb] at h; cases h.2)]
          · refine loopK.mk (i + 1) (by simp (disch := (first | omega | (simp only [vlen]; first | done | omega))) only [↓va0, ↓va1, ↓va2, ↓va3, vb0, vb1, vb2, vb3, vb4, vb5, vb6, vb7, vb8, vb9, vb10, vz0, vz1, vy0, vx0, ↓reduceIte, Nat.reduceBEq, Nat.reduceEqDiff, Nat.reduceLT, Nat.reduceLeDiff, Nat.reduceAdd, Nat.reduceMul, Nat.reduceSub, reduceCtorEq, Int.reduceToNat]) (by omega) (by omega) ?_
            (simp (disch := (first | omega | (simp only [vlen]; first | done | omega))) only [Fits_u, Fits_m, Fits_nil, List.length_append, ↓va0, ↓va1, ↓va2, ↓va3, vb0, vb1, vb2, vb3, vb4, vb5, vb6, vb7, vb8, vb9, vb10, vz0, vz1, vy0, vx0, ↓reduceIte, Nat.reduceBEq, Nat.reduceEqDiff, Nat.reduceLT, Nat.reduceLeDiff, Nat.reduceAdd, Nat.reduceMul, Nat.reduceSub, reduceCtorEq, Int.reduceToNat] <;> (repeat' first | rfl | apply And.intro))
            rw [hs, mvA, if_neg (by omega)]
        · have ei : i = n.arcs.length := by omega
          subst ei
          repeat' first | (refine Br.dec (fun h => ?_) (fun h => ?_) <;> try (exfalso; omega)) | (refine Br.eqi (fun h => ?_) (fun h => ?_) <;> try (exfalso; omega)) | (simp (disch := (first | omega | (simp only [vlen]; first | done | omega))) only [↓va0, ↓va1, ↓va2, ↓va3, vb0, vb1, vb2, vb3, vb4, vb5, vb6, vb7, vb8, vb9, vb10, vz0, vz1, vy0, vx0, ↓reduceIte, Nat.reduceBEq, Nat.reduceEqDiff, Nat.reduceLT, Nat.reduceLeDiff, Nat.reduceAdd, Nat.reduceMul, Nat.reduceSub, reduceCtorEq, Int.reduceToNat]) | (refine Br.mk (fun h => ?_) (fun h => ?_)) | (refine BrN.mk (fun h => ?_) ?_) | (refine AltVC.mk ?_ ?_)
          refine CallVC.eqo (ref_free_spec n hv (ngo n (nrun n (w.take k)) (w.getD k 0)) (ngo_lt hv)) (by simp (disch := (first | omega | (simp only [vlen]; first | done | omega))) only [↓va0, ↓va1, ↓va2, ↓va3, vb0, vb1, vb2, vb3, vb4, vb5, vb6, vb7, vb8, vb9, vb10, vz0, vz1, vy0, vx0, ↓reduceIte, Nat.reduceBEq, Nat.reduceEqDiff, Nat.reduceLT, Nat.reduceLeDiff, Nat.reduceAdd, Nat.reduceMul, Nat.reduceSub, reduceCtorEq, Int.reduceToNat]) ?_
          repeat' first | (refine Br.dec (fun h => ?_) (fun h => ?_) <;> try (exfalso; omega)) | (refine Br.eqi (fun h => ?_) (fun h => ?_) <;> try (exfalso; omega)) | (simp (disch := (first | omega | (simp only [vlen]; first | done | omega))) only [↓va0, ↓va1, ↓va2, ↓va3, vb0, vb1, vb2, vb3, vb4, vb5, vb6, vb7, vb8, vb9, vb10, vz0, vz1, vy0, vx0, ↓reduceIte, Nat.reduceBEq, Nat.reduceEqDiff, Nat.reduceLT, Nat.reduceLeDiff, Nat.reduceAdd, Nat.reduceMul, Nat.reduceSub, reduceCtorEq, Int.reduceToNat]) | (refine Br.mk (fun h => ?_) (fun h => ?_)) | (refine BrN.mk (fun h => ?_) ?_) | (refine AltVC.mk ?_ ?_)
          refine loopK.mk (k + 1) (by simp (disch := (first | omega | (simp only [vlen]; first | done | omega))) only [↓va0, ↓va1, ↓va2, ↓va3, vb0, vb1, vb2, vb3, vb4, vb5, vb6, vb7, vb8, vb9, vb10, vz0, vz1, vy0, vx0, ↓reduceIte, Nat.reduceBEq, Nat.reduceEqDiff, Nat.reduceLT, Nat.reduceLeDiff, Nat.reduceAdd, Nat.reduceMul, Nat.reduceSub, reduceCtorEq, Int.reduceToNat]) (by omega) (by omega) ?_
          (simp (disch := (first | omega | (simp only [vlen]; first | done | omega))) only [Fits_u, Fits_m, Fits_nil, List.length_append, ↓va0, ↓va1, ↓va2, ↓va3, vb0, vb1, vb2, vb3, vb4, vb5, vb6, vb7, vb8, vb9, vb10, vz0, vz1, vy0, vx0, ↓reduceIte, Nat.reduceBEq, Nat.reduceEqDiff, Nat.reduceLT, Nat.reduceLeDiff, Nat.reduceAdd, Nat.reduceMul, Nat.reduceSub, reduceCtorEq, Int.reduceToNat] <;> (repeat' first | rfl | apply And.intro))
          rw [hr]; rfl
    · repeat' first | (refine Br.dec (fun h => ?_) (fun h => ?_) <;> try (exfalso; omega)) | (refine Br.eqi (fun h => ?_) (fun h => ?_) <;> try (exfalso; omega)) | (simp (disch := (first | omega | (simp only [vlen]; first | done | omega))) only [↓va0, ↓va1, ↓va2, ↓va3, vb0, vb1, vb2, vb3, vb4, vb5, vb6, vb7, vb8, vb9, vb10, vz0, vz1, vy0, vx0, ↓reduceIte, Nat.reduceBEq, Nat.reduceEqDiff, Nat.reduceLT, Nat.reduceLeDiff, Nat.reduceAdd, Nat.reduceMul, Nat.reduceSub, reduceCtorEq, Int.reduceToNat]) | (refine Br.mk (fun h => ?_) (fun h => ?_)) | (refine BrN.mk (fun h => ?_) ?_) | (refine AltVC.mk ?_ ?_)
      have e : k = w.length := by omega
      subst e
      exact fin_mk rfl
end Go.Proofs.Ytmhpfgklfpgniaa
