/-
  Sentences: the reference of what a sentence takes.
-/
import Derived.Test.YtmhpfgklfpgniaaSent
import Derived.Test.YtmhpfgklfpgniaaLang
import Derived.Test.YtmhpfgklfpgniaaMRun
namespace Go.Proofs.Ytmhpfgklfpgniaa
open Go.Dm
set_option linter.unusedSimpArgs false
set_option linter.unnecessarySimpa false
set_option linter.unusedVariables false
set_option linter.defProp false

/-- A row of bools by index. -/
def bt (n : Nat) (f : Nat → Bool) : List Bool := (List.range n).map f
theorem bt_rep {n : Nat} : List.replicate n false = bt n fun _ => false := by apply List.ext_getElem <;> simp [bt]
theorem bt_len {n : Nat} {f : Nat → Bool} : (bt n f).length = n := by simp [bt]
theorem bt_get {n i : Nat} {f : Nat → Bool} {d : Bool} (h : i < n) : (bt n f).getD i d = f i := by simp [bt, List.getD, h]
theorem bt_set {n i : Nat} {f : Nat → Bool} {x : Bool} : (bt n f).set i x = bt n fun j => if j = i then x else f j := by
  apply List.ext_getElem
  · simp [bt]
  · intro j h1 h2
    simp only [bt, List.getElem_set, List.getElem_map, List.getElem_range]
    by_cases e : i = j
    · rw [if_pos e, if_pos e.symm]
    · rw [if_neg e, if_neg (fun h => e h.symm)]
theorem bt_ext {n : Nat} {f g : Nat → Bool} (h : ∀ j, j < n → f j = g j) : bt n f = bt n g := by
  unfold bt
  exact List.map_congr_left fun j hj => h j (List.mem_range.mp hj)
theorem obBt {n : Nat} {f g : Nat → Bool} {a b : Bool} {c : Kd} (h : ∀ j, j < n → f j = g j) : some (⟨1, bls (bt n f), a, b, c⟩ : Ob) = some ⟨1, bls (bt n g), a, b, c⟩ := by rw [bt_ext h]
theorem viewO_bt {N : Nat} {f : Nat → Bool} : viewO (some ⟨1, bls (bt N f), true, false, .arr⟩) 1 0 N = .sl 1 (bls (bt N f)) := viewO_all (by simp [bt_len, bls])
theorem dv {n i j : Nat} (h : j < n) : (i * n + j) / n = i := by
  rw [Nat.mul_comm, Nat.mul_add_div (by omega), Nat.div_eq_of_lt h, Nat.add_zero]
theorem md {n i j : Nat} (h : j < n) : (i * n + j) % n = j := by
  rw [Nat.mul_comm, Nat.mul_add_mod, Nat.mod_eq_of_lt h]
open Classical in
/-- Does node k take the stretch? -/
noncomputable def mb (l : List Dm.Node) (w : List Int) (k i j : Nat) : Bool := decide (Mt l w k i j)
noncomputable def Mp (l : List Dm.Node) (w : List Int) (n k p : Nat) : Bool := mb l w k (p / n) (p % n)
theorem Mp_at {l : List Dm.Node} {w : List Int} {n k i m : Nat} (h : m < n) : Mp l w n k (i * n + m) = mb l w k i m := by rw [Mp, dv h, md h]
/-- The row while it is filled: stretches up to a size, of that size those that begin ahead of i. -/
noncomputable def Tb (l : List Dm.Node) (w : List Int) (n k size i p : Nat) : Bool := decide (p % n < p / n + size ∨ (p % n = p / n + size ∧ p / n < i)) && mb l w k (p / n) (p % n)
section
variable {l : List Dm.Node} {w : List Int} {n k size i : Nat}
open Classical in
theorem mb_le {j : Nat} (h : j < i) : mb l w k i j = false := by
  unfold mb; exact decide_eq_false fun e => by have := e.1; omega
theorem tb_zero {p : Nat} : false = Tb l w n k 0 0 p := by
  unfold Tb
  by_cases h : p % n < p / n + 0 ∨ (p % n = p / n + 0 ∧ p / n < 0)
  · rw [mb_le (by omega), Bool.and_false]
  · rw [decide_eq_false h, Bool.false_and]
theorem tb_at {j m : Nat} (hj : j < n) (h : j < m + size) : Tb l w n k size i (m * n + j) = mb l w k m j := by
  unfold Tb; rw [dv hj, md hj, decide_eq_true (by omega), Bool.true_and]
theorem tb_step {b : Bool} (hj : i + size < n) (hb : b = mb l w k i (i + size)) : ∀ p, p < n * n → (if p = i * n + (i + size) then b else Tb l w n k size i p) = Tb l w n k size (i + 1) p := by
  intro p hp
  by_cases e : p = i * n + (i + size)
  · rw [if_pos e, e]
    unfold Tb
    rw [dv hj, md hj, decide_eq_true (by omega), Bool.true_and, hb]
  · rw [if_neg e]
    unfold Tb
    congr 1
    refine dec_iff ⟨fun h => by omega, fun h => ?_⟩
    have hp2 := Nat.div_add_mod p n
    rcases h with h | ⟨h1, h2⟩
    · exact .inl h
    · by_cases e2 : p / n = i
      · exact absurd (by rw [← hp2, h1, e2, Nat.mul_comm]) e
      · exact .inr ⟨h1, by omega⟩
theorem tb_next (hn : 0 < n) (h : n ≤ i + size) : ∀ p, p < n * n → Tb l w n k size i p = Tb l w n k (size + 1) 0 p := by
  intro p hp
  unfold Tb
  congr 1
  have := Nat.mod_lt p hn
  generalize p / n = a at *
  generalize p % n = b at *
  exact dec_iff (by omega)
theorem tb_end (hn : 0 < n) (h : n ≤ size) : ∀ p, p < n * n → Tb l w n k size 0 p = Mp l w n k p := by
  intro p hp
  unfold Tb Mp
  have := Nat.mod_lt p hn
  have h2 : p % n < p / n + size := Nat.lt_of_lt_of_le this (Nat.le_trans h (Nat.le_add_left _ _))
  rw [decide_eq_true (.inl h2), Bool.true_and]
open Classical in
/-- Some place up to m parts the stretch in two. -/
noncomputable def orC (l : List Dm.Node) (w : List Int) (a b i lo j m : Nat) : Bool := decide (∃ q, lo ≤ q ∧ q < m ∧ Mt l w a i q ∧ Mt l w b q j)
open Classical in
theorem orC_zero {a b lo j : Nat} : orC l w a b i lo j lo = false := by
  unfold orC; exact decide_eq_false fun ⟨q, h1, h2, _⟩ => by omega
open Classical in
theorem orC_succ {a b lo j m : Nat} (h : lo ≤ m) : orC l w a b i lo j (m + 1) = (orC l w a b i lo j m || (mb l w a i m && mb l w b m j)) := by
  unfold orC mb
  rw [Bool.eq_iff_iff]
  simp only [Bool.or_eq_true, Bool.and_eq_true, decide_eq_true_eq]
  constructor
  · rintro ⟨q, h1, h2, h3, h4⟩
    by_cases e : q = m
    · subst e; exact .inr ⟨h3, h4⟩
    · exact .inl ⟨q, h1, by omega, h3, h4⟩
  · rintro (⟨q, h1, h2, h3, h4⟩ | ⟨h3, h4⟩)
    · exact ⟨q, h1, by omega, h3, h4⟩
    · exact ⟨m, h, by omega, h3, h4⟩
variable {K : Int}
open Classical in
theorem mb_1 (h : k < l.length) (e : (l.getD k default).kind = 1) : false = mb l w k i (i + size) := by
  unfold mb; exact (decide_eq_false (mt_1 h e)).symm
open Classical in
theorem mb_2 (h : k < l.length) (hj : i + size ≤ w.length) (e : (l.getD k default).kind = 2) : ((size : Int) == 0) = mb l w k i (i + size) := by
  unfold mb
  rw [Bool.eq_iff_iff, decide_eq_true_eq, mt_2 h e hj, beq_iff_eq]
  omega
open Classical in
theorem mb_3 (h : k < l.length) (hj : i + size ≤ w.length) (e : (l.getD k default).kind = 3) (hs : (size : Int) = 1) : (w.getD i 0 == (l.getD k default).a) = mb l w k i (i + size) := by
  unfold mb
  rw [Bool.eq_iff_iff, decide_eq_true_eq, mt_3 h e hj, beq_iff_eq]
  exact ⟨fun h => ⟨by omega, h⟩, fun h => h.2⟩
open Classical in
theorem mb_3n (h : k < l.length) (hj : i + size ≤ w.length) (e : (l.getD k default).kind = 3) (hs : ¬ (size : Int) = 1) : false = mb l w k i (i + size) := by
  unfold mb; exact (decide_eq_false fun h2 => by rw [mt_3 h e hj] at h2; omega).symm
open Classical in
theorem mb_5 {j : Nat} (hv : NodesOk K l) (h : k < l.length) (hj : j ≤ w.length) (e : (l.getD k default).kind = 5) : mb l w k i j = (mb l w (l.getD k default).a.toNat i j || mb l w (l.getD k default).b.toNat i j) := by
  unfold mb
  rw [Bool.eq_iff_iff, Bool.or_eq_true, decide_eq_true_eq, decide_eq_true_eq, decide_eq_true_eq, mt_5 hv h e]
open Classical in
theorem mb_4 {j : Nat} (hv : NodesOk K l) (h : k < l.length) (hj : j ≤ w.length) (e : (l.getD k default).kind = 4) : mb l w k i j = orC l w (l.getD k default).a.toNat (l.getD k default).b.toNat i i j (j + 1) := by
  unfold mb orC
  rw [Bool.eq_iff_iff, decide_eq_true_eq, decide_eq_true_eq, mt_4 hv h e hj]
  exact ⟨fun ⟨m, a, b, c⟩ => ⟨m, a, by omega, c⟩, fun ⟨m, a, b, c⟩ => ⟨m, a, by omega, c⟩⟩
open Classical in
theorem mb_6 (hv : NodesOk K l) (h : k < l.length) (hj : i + size ≤ w.length) (e : (l.getD k default).kind = 6) : mb l w k i (i + size) = (((size : Int) == 0) || orC l w (l.getD k default).a.toNat k i (i + 1) (i + size) (i + size + 1)) := by
  unfold mb orC
  rw [Bool.eq_iff_iff, Bool.or_eq_true, decide_eq_true_eq, decide_eq_true_eq, mt_6 hv h e (by omega) hj, beq_iff_eq]
  constructor
  · rintro (h | ⟨m, a, b, c⟩)
    · exact .inl (by omega)
    · exact .inr ⟨m, a, by omega, c⟩
  · rintro (h | ⟨m, a, b, c⟩)
    · exact .inl (by omega)
    · exact .inr ⟨m, a, by omega, c⟩
end
/-- A row that is done. -/
noncomputable def mrow (l : List Dm.Node) (w : List Int) (n k : Nat) : D := .sl 1 (bls (bt (n * n) (Mp l w n k)))
section
variable {l : List Dm.Node} {w : List Int} {N k : Nat} {s : S} {τ n : Nat} {ob : Ob} {f : Nat → Nat} {ι : List Nat}
theorem mrow_view : s.view (mrow l w N k) = mrow l w N k := by simp [mrow, view_sl]
theorem mrow_owned : (mrow l w N k).owned = false := by simp [mrow, owned_sl]
theorem mrow_cl : (mrow l w N k).cl = true := by simp [mrow, cl_sl]
theorem mrow_clo : (mrow l w N k).clo' = true := by simp [mrow, clo'_sl]
theorem mrow_kill : (mrow l w N k).kill τ = mrow l w N k := by simp [mrow, kill_sl]
theorem mrow_trim : (mrow l w N k).trim n = mrow l w N k := by simp [mrow, trim_sl]
theorem mrow_frz : (mrow l w N k).frz τ ob = mrow l w N k := by simp [mrow, frz_sl]
theorem mrow_keep : (mrow l w N k).keep s = mrow l w N k := by simp [mrow, keep_sl]
theorem mrow_kOwn {i o : Nat} {k' : S → D → Prop} : kOwn s τ i o ob k' (mrow l w N k) = k' s (mrow l w N k) := by unfold mrow; rfl
theorem mrow_kIdx {d : D} {sz : Nat} {k' : D → Prop} : kIdx (mrow l w N k) d sz k' = kIdx (.sl 1 (bls (bt (N * N) (Mp l w N k)))) d sz k' := (rfl)
end
theorem nat_mul {a b : Nat} : ((a : Int) * (b : Int)).toNat = a * b := by rw [← Int.natCast_mul, Int.toNat_natCast]
theorem nat_mad {a b c : Nat} : ((a : Int) * (b : Int) + (c : Int)).toNat = a * b + c := by rw [← Int.natCast_mul]; omega
theorem nat_mad2 {a b c d : Nat} : ((a : Int) * (b : Int) + ((c : Int) + (d : Int))).toNat = a * b + (c + d) := by rw [← Int.natCast_mul]; omega
def vmn := And.intro @bt_len <| And.intro @bt_get <| And.intro @bt_set <| And.intro @bt_rep <| And.intro @viewO_bt <| And.intro @mrow_view <| And.intro @mrow_owned <| And.intro @mrow_cl <| And.intro @mrow_clo <| And.intro @mrow_kill <| And.intro @mrow_trim <| And.intro @mrow_frz <| And.intro @mrow_keep <| And.intro @mrow_kOwn <| And.intro @mrow_kIdx <| And.intro @nat_mul <| And.intro @nat_mad <| And.intro @nat_mad2 <| And.intro @Mp_at <| And.intro @tb_at @Int.add_sub_cancel
noncomputable def mnO (l : List Dm.Node) (w : List Int) (n k : Nat) (f : Nat → Bool) : List (Nat × Ob) := [(0, ⟨1, tabD l.length fun a => if a = k then .ref 2 1 0 (n * n) else if a < k then mrow l w n a else .nl, false, false, .arr⟩), (1, ⟨3, [nodD (l.getD k default)], true, false, .fix⟩), (2, ⟨1, bls (bt (n * n) f), true, false, .arr⟩)]
set_option maxRecDepth 10000 in
set_option maxHeartbeats 4000000 in
theorem means_spec (k0 : Int) (l : List Dm.Node) (hv : NodesOk k0 l) (hl : 0 < l.length ∧ l.length ≤ 1000) (w : List Int) (hw : w.length ≤ 100) : Dm.Spec Try.prog 17 [.sl 3 (tbl nodD l), .sl 1 (i64s w)] (· = .v (.bool (mb l w (l.length - 1) 0 w.length))) := by
  refine spec_of_vc mixed Try.func17 c17 (by rw [show Try.f17.ntmps = _ from Try.ntmps17]; simp) ?_
  unfold m17 r17
  obtain ⟨n, hn⟩ : ∃ n : Nat, (w.length : Int) + 1 = n := ⟨w.length + 1, by omega⟩
  have hnn := Nat.mul_le_mul (show n ≤ 101 by omega) (show n ≤ 101 by omega)
  repeat' first | (refine Br.dec (fun h => ?_) (fun h => ?_) <;> try (exfalso; omega)) | (refine Br.eqi (fun h => ?_) (fun h => ?_) <;> try (exfalso; omega)) | (simp (disch := (first | omega | (simp only [vlen]; first | done | omega))) only [vmn, ↓va0, ↓va1, ↓va2, ↓va3, vb0, vb1, vb2, vb3, vb4, vb5, vb6, vb7, vb8, vb9, vb10, vz0, vz1, vy0, vx0, ↓reduceIte, Nat.reduceBEq, Nat.reduceEqDiff, Nat.reduceLT, Nat.reduceLeDiff, Nat.reduceAdd, Nat.reduceMul, Nat.reduceSub, reduceCtorEq, Int.reduceToNat]) | (refine Br.mk (fun h => ?_) (fun h => ?_)) | (refine BrN.mk (fun h => ?_) ?_) | (refine AltVC.mk ?_ ?_)
  rw [tabD_rep, hn]
  refine LoopVC.mk (X := Nat) (fun k => [(6, .ref 0 1 0 l.length), (23, iv .i64 k)]) (fun k => [(0, ⟨1, tabD l.length fun a => if a < k then mrow l w n a else .nl, true, false, .arr⟩)]) (fun k => l.length - k) (fun k => k ≤ l.length) 0 (by omega) ?_ ?_
  · (simp (disch := (first | omega | (simp only [vlen]; first | done | omega))) only [Fits_u, Fits_m, Fits_nil, List.length_append, vmn, ↓va0, ↓va1, ↓va2, ↓va3, vb0, vb1, vb2, vb3, vb4, vb5, vb6, vb7, vb8, vb9, vb10, vz0, vz1, vy0, vx0, ↓reduceIte, Nat.reduceBEq, Nat.reduceEqDiff, Nat.reduceLT, Nat.reduceLeDiff, Nat.reduceAdd, Nat.reduceMul, Nat.reduceSub, reduceCtorEq, Int.reduceToNat] <;> (repeat' first | rfl | apply And.intro))
    all_goals trace_state
  · intro k hk
    by_cases hkl : k < l.length
    · have hx := hv k hkl
      unfold NodeOk at hx
      obtain ⟨x1, x2, x3, x4, x5⟩ := hx
      repeat' first | (refine Br.dec (fun h => ?_) (fun h => ?_) <;> try (exfalso; omega)) | (refine Br.eqi (fun h => ?_) (fun h => ?_) <;> try (exfalso; omega)) | (simp (disch := (first | omega | (simp only [vlen]; first | done | omega))) only [vmn, ↓va0, ↓va1, ↓va2, ↓va3, vb0, vb1, vb2, vb3, vb4, vb5, vb6, vb7, vb8, vb9, vb10, vz0, vz1, vy0, vx0, ↓reduceIte, Nat.reduceBEq, Nat.reduceEqDiff, Nat.reduceLT, Nat.reduceLeDiff, Nat.reduceAdd, Nat.reduceMul, Nat.reduceSub, reduceCtorEq, Int.reduceToNat]) | (refine Br.mk (fun h => ?_) (fun h => ?_)) | (refine BrN.mk (fun h => ?_) ?_) | (refine AltVC.mk ?_ ?_)
      refine LoopVC.mk (X := Nat) (fun size => [(6, .ref 0 1 0 l.length), (9, iv .i64 size)]) (fun size => mnO l w n k (Tb l w n k size 0)) (fun size => n - size) (fun size => size ≤ n) 0 (by omega) ?_ ?_
      · unfold mnO
        (simp (disch := (first | omega | (simp only [vlen]; first | done | omega))) only [Fits_u, Fits_m, Fits_nil, List.length_append, vmn, ↓va0, ↓va1, ↓va2, ↓va3, vb0, vb1, vb2, vb3, vb4, vb5, vb6, vb7, vb8, vb9, vb10, vz0, vz1, vy0, vx0, ↓reduceIte, Nat.reduceBEq, Nat.reduceEqDiff, Nat.reduceLT, Nat.reduceLeDiff, Nat.reduceAdd, Nat.reduceMul, Nat.reduceSub, reduceCtorEq, Int.reduceToNat] <;> (repeat' first | rfl | apply And.intro))
        exact obBt fun p hp => tb_zero
      · intro size hsz
        by_cases hsn : size < n
        · unfold mnO
          repeat' first | (refine Br.dec (fun h => ?_) (fun h => ?_) <;> try (exfalso; omega)) | (refine Br.eqi (fun h => ?_) (fun h => ?_) <;> try (exfalso; omega)) | (simp (disch := (first | omega | (simp only [vlen]; first | done | omega))) only [vmn, ↓va0, ↓va1, ↓va2, ↓va3, vb0, vb1, vb2, vb3, vb4, vb5, vb6, vb7, vb8, vb9, vb10, vz0, vz1, vy0, vx0, ↓reduceIte, Nat.reduceBEq, Nat.reduceEqDiff, Nat.reduceLT, Nat.reduceLeDiff, Nat.reduceAdd, Nat.reduceMul, Nat.reduceSub, reduceCtorEq, Int.reduceToNat]) | (refine Br.mk (fun h => ?_) (fun h => ?_)) | (refine BrN.mk (fun h => ?_) ?_) | (refine AltVC.mk ?_ ?_)
          refine LoopVC.mk (X := Nat) (fun i => [(6, .ref 0 1 0 l.length), (10, iv .i64 i)]) (fun i => mnO l w n k (Tb l w n k size i)) (fun i => n - i) (fun i => i + size ≤ n) 0 (by omega) ?_ ?_
          · unfold mnO
            (simp (disch := (first | omega | (simp only [vlen]; first | done | omega))) only [Fits_u, Fits_m, Fits_nil, List.length_append, vmn, ↓va0, ↓va1, ↓va2, ↓va3, vb0, vb1, vb2, vb3, vb4, vb5, vb6, vb7, vb8, vb9, vb10, vz0, vz1, vy0, vx0, ↓reduceIte, Nat.reduceBEq, Nat.reduceEqDiff, Nat.reduceLT, Nat.reduceLeDiff, Nat.reduceAdd, Nat.reduceMul, Nat.reduceSub, reduceCtorEq, Int.reduceToNat] <;> (repeat' first | rfl | apply And.intro))
            all_goals trace_state
          · intro i hi
            unfold mnO
            by_cases hin : i + size < n
            · have h1 := Nat.mul_le_mul_right n (show i + 1 ≤ n by omega)
              rw [Nat.succ_mul] at h1
              have h2 := hv k hkl
              obtain ⟨K, hK⟩ : ∃ K, (l.getD k default).kind = K := ⟨_, rfl⟩
              have b0 := @bt_len (n * n) (Tb l w n k size i)
              have b1 := @bt_len (n * n) (Mp l w n (l.getD k default).a.toNat)
              have b2 := @bt_len (n * n) (Mp l w n (l.getD k default).b.toNat)
              have fin := fun b hb => @tb_step l w n k size i b hin hb
              have hj : i + size ≤ w.length := by omega
              have hm5 := fun e => @mb_5 l w k i k0 (i + size) hv hkl hj e
              have hm4 := fun e => @mb_4 l w k i k0 (i + size) hv hkl hj e
              have hm6 := fun e => @mb_6 l w k size i k0 hv hkl hj e
              repeat' first | (refine Br.dec (fun h => ?_) (fun h => ?_) <;> try (exfalso; omega)) | (refine Br.eqi (fun h => ?_) (fun h => ?_) <;> try (exfalso; omega)) | (simp (disch := (first | omega | (simp only [vlen]; first | done | omega))) only [vmn, ↓va0, ↓va1, ↓va2, ↓va3, vb0, vb1, vb2, vb3, vb4, vb5, vb6, vb7, vb8, vb9, vb10, vz0, vz1, vy0, vx0, ↓reduceIte, Nat.reduceBEq, Nat.reduceEqDiff, Nat.reduceLT, Nat.reduceLeDiff, Nat.reduceAdd, Nat.reduceMul, Nat.reduceSub, reduceCtorEq, Int.reduceToNat]) | (refine Br.mk (fun h => ?_) (fun h => ?_)) | (refine BrN.mk (fun h => ?_) ?_) | (refine AltVC.mk ?_ ?_)
              · refine loopK.mk (i + 1) (by simp (disch := (first | omega | (simp only [vlen]; first | done | omega))) only [↓va0, ↓va1, ↓va2, ↓va3, vb0, vb1, vb2, vb3, vb4, vb5, vb6, vb7, vb8, vb9, vb10, vz0, vz1, vy0, vx0, ↓reduceIte, Nat.reduceBEq, Nat.reduceEqDiff, Nat.reduceLT, Nat.reduceLeDiff, Nat.reduceAdd, Nat.reduceMul, Nat.reduceSub, reduceCtorEq, Int.reduceToNat]) (by omega) (by omega) ?_
                (simp (disch := (first | omega | (simp only [vlen]; first | done | omega))) only [Fits_u, Fits_m, Fits_nil, List.length_append, vmn, ↓va0, ↓va1, ↓va2, ↓va3, vb0, vb1, vb2, vb3, vb4, vb5, vb6, vb7, vb8, vb9, vb10, vz0, vz1, vy0, vx0, ↓reduceIte, Nat.reduceBEq, Nat.reduceEqDiff, Nat.reduceLT, Nat.reduceLeDiff, Nat.reduceAdd, Nat.reduceMul, Nat.reduceSub, reduceCtorEq, Int.reduceToNat] <;> (repeat' first | rfl | apply And.intro))
                exact obBt (fin _ (mb_2 hkl hj (by assumption)))
              · refine loopK.mk (i + 1) (by simp (disch := (first | omega | (simp only [vlen]; first | done | omega))) only [↓va0, ↓va1, ↓va2, ↓va3, vb0, vb1, vb2, vb3, vb4, vb5, vb6, vb7, vb8, vb9, vb10, vz0, vz1, vy0, vx0, ↓reduceIte, Nat.reduceBEq, Nat.reduceEqDiff, Nat.reduceLT, Nat.reduceLeDiff, Nat.reduceAdd, Nat.reduceMul, Nat.reduceSub, reduceCtorEq, Int.reduceToNat]) (by omega) (by omega) ?_
                (simp (disch := (first | omega | (simp only [vlen]; first | done | omega))) only [Fits_u, Fits_m, Fits_nil, List.length_append, vmn, ↓va0, ↓va1, ↓va2, ↓va3, vb0, vb1, vb2, vb3, vb4, vb5, vb6, vb7, vb8, vb9, vb10, vz0, vz1, vy0, vx0, ↓reduceIte, Nat.reduceBEq, Nat.reduceEqDiff, Nat.reduceLT, Nat.reduceLeDiff, Nat.reduceAdd, Nat.reduceMul, Nat.reduceSub, reduceCtorEq, Int.reduceToNat] <;> (repeat' first | rfl | apply And.intro))
                exact obBt (fin _ (mb_3 hkl hj (by assumption) (by assumption)))
              · refine loopK.mk (i + 1) (by simp (disch := (first | omega | (simp only [vlen]; first | done | omega))) only [↓va0, ↓va1, ↓va2, ↓va3, vb0, vb1, vb2, vb3, vb4, vb5, vb6, vb7, vb8, vb9, vb10, vz0, vz1, vy0, vx0, ↓reduceIte, Nat.reduceBEq, Nat.reduceEqDiff, Nat.reduceLT, Nat.reduceLeDiff, Nat.reduceAdd, Nat.reduceMul, Nat.reduceSub, reduceCtorEq, Int.reduceToNat]) (by omega) (by omega) ?_
                (simp (disch := (first | omega | (simp only [vlen]; first | done | omega))) only [Fits_u, Fits_m, Fits_nil, List.length_append, vmn, ↓va0, ↓va1, ↓va2, ↓va3, vb0, vb1, vb2, vb3, vb4, vb5, vb6, vb7, vb8, vb9, vb10, vz0, vz1, vy0, vx0, ↓reduceIte, Nat.reduceBEq, Nat.reduceEqDiff, Nat.reduceLT, Nat.reduceLeDiff, Nat.reduceAdd, Nat.reduceMul, Nat.reduceSub, reduceCtorEq, Int.reduceToNat] <;> (repeat' first | rfl | apply And.intro))
                exact obBt (fin _ (mb_3n hkl hj (by assumption) (by assumption)))
              · refine loopK.mk (i + 1) (by simp (disch := (first | omega | (simp only [vlen]; first | done | omega))) only [↓va0, ↓va1, ↓va2, ↓va3, vb0, vb1, vb2, vb3, vb4, vb5, vb6, vb7, vb8, vb9, vb10, vz0, vz1, vy0, vx0, ↓reduceIte, Nat.reduceBEq, Nat.reduceEqDiff, Nat.reduceLT, Nat.reduceLeDiff, Nat.reduceAdd, Nat.reduceMul, Nat.reduceSub, reduceCtorEq, Int.reduceToNat]) (by omega) (by omega) ?_
                (simp (disch := (first | omega | (simp only [vlen]; first | done | omega))) only [Fits_u, Fits_m, Fits_nil, List.length_append, vmn, ↓va0, ↓va1, ↓va2, ↓va3, vb0, vb1, vb2, vb3, vb4, vb5, vb6, vb7, vb8, vb9, vb10, vz0, vz1, vy0, vx0, ↓reduceIte, Nat.reduceBEq, Nat.reduceEqDiff, Nat.reduceLT, Nat.reduceLeDiff, Nat.reduceAdd, Nat.reduceMul, Nat.reduceSub, reduceCtorEq, Int.reduceToNat] <;> (repeat' first | rfl | apply And.intro))
                exact obBt (fin _ (by rw [hm5 (by assumption)]; simp only [Bool.true_or, Bool.false_or, Bool.true_and, Bool.false_and, Bool.or_true, Bool.or_false, Bool.and_true, Bool.and_false, Bool.or_self, Bool.and_self, *]))
              · refine loopK.mk (i + 1) (by simp (disch := (first | omega | (simp only [vlen]; first | done | omega))) only [↓va0, ↓va1, ↓va2, ↓va3, vb0, vb1, vb2, vb3, vb4, vb5, vb6, vb7, vb8, vb9, vb10, vz0, vz1, vy0, vx0, ↓reduceIte, Nat.reduceBEq, Nat.reduceEqDiff, Nat.reduceLT, Nat.reduceLeDiff, Nat.reduceAdd, Nat.reduceMul, Nat.reduceSub, reduceCtorEq, Int.reduceToNat]) (by omega) (by omega) ?_
                (simp (disch := (first | omega | (simp only [vlen]; first | done | omega))) only [Fits_u, Fits_m, Fits_nil, List.length_append, vmn, ↓va0, ↓va1, ↓va2, ↓va3, vb0, vb1, vb2, vb3, vb4, vb5, vb6, vb7, vb8, vb9, vb10, vz0, vz1, vy0, vx0, ↓reduceIte, Nat.reduceBEq, Nat.reduceEqDiff, Nat.reduceLT, Nat.reduceLeDiff, Nat.reduceAdd, Nat.reduceMul, Nat.reduceSub, reduceCtorEq, Int.reduceToNat] <;> (repeat' first | rfl | apply And.intro))
                exact obBt (fin _ (by rw [hm5 (by assumption)]; simp only [Bool.true_or, Bool.false_or, Bool.true_and, Bool.false_and, Bool.or_true, Bool.or_false, Bool.and_true, Bool.and_false, Bool.or_self, Bool.and_self, *]))
              · refine LoopVC.mk (X := Nat) (fun m => [(6, .ref 0 1 0 l.length), (12, .v (.bool (orC l w (l.getD k default).a.toNat (l.getD k default).b.toNat i i (i + size) m))), (13, iv .i64 m)]) (fun _ => mnO l w n k (Tb l w n k size i)) (fun m => i + size + 1 - m) (fun m => i ≤ m ∧ m ≤ i + size + 1) i (by omega) ?_ ?_
                · rw [orC_zero]
                  unfold mnO
                  (simp (disch := (first | omega | (simp only [vlen]; first | done | omega))) only [Fits_u, Fits_m, Fits_nil, List.length_append, vmn, ↓va0, ↓va1, ↓va2, ↓va3, vb0, vb1, vb2, vb3, vb4, vb5, vb6, vb7, vb8, vb9, vb10, vz0, vz1, vy0, vx0, ↓reduceIte, Nat.reduceBEq, Nat.reduceEqDiff, Nat.reduceLT, Nat.reduceLeDiff, Nat.reduceAdd, Nat.reduceMul, Nat.reduceSub, reduceCtorEq, Int.reduceToNat] <;> (repeat' first | rfl | apply And.intro))
                  all_goals trace_state
                · rintro m ⟨hm1, hm2⟩
                  unfold mnO
                  by_cases hmj : m ≤ i + size
                  · have g1 := Nat.mul_le_mul_right n (show m + 1 ≤ n by omega)
                    rw [Nat.succ_mul] at g1
                    have hS := @orC_succ l w i (l.getD k default).a.toNat (l.getD k default).b.toNat i (i + size) m hm1
                    repeat' first | (refine Br.dec (fun h => ?_) (fun h => ?_) <;> try (exfalso; omega)) | (refine Br.eqi (fun h => ?_) (fun h => ?_) <;> try (exfalso; omega)) | (simp (disch := (first | omega | (simp only [vlen]; first | done | omega))) only [vmn, ↓va0, ↓va1, ↓va2, ↓va3, vb0, vb1, vb2, vb3, vb4, vb5, vb6, vb7, vb8, vb9, vb10, vz0, vz1, vy0, vx0, ↓reduceIte, Nat.reduceBEq, Nat.reduceEqDiff, Nat.reduceLT, Nat.reduceLeDiff, Nat.reduceAdd, Nat.reduceMul, Nat.reduceSub, reduceCtorEq, Int.reduceToNat]) | (refine Br.mk (fun h => ?_) (fun h => ?_)) | (refine BrN.mk (fun h => ?_) ?_) | (refine AltVC.mk ?_ ?_)
                    all_goals
                      refine loopK.mk (m + 1) (by simp (disch := (first | omega | (simp only [vlen]; first | done | omega))) only [↓va0, ↓va1, ↓va2, ↓va3, vb0, vb1, vb2, vb3, vb4, vb5, vb6, vb7, vb8, vb9, vb10, vz0, vz1, vy0, vx0, ↓reduceIte, Nat.reduceBEq, Nat.reduceEqDiff, Nat.reduceLT, Nat.reduceLeDiff, Nat.reduceAdd, Nat.reduceMul, Nat.reduceSub, reduceCtorEq, Int.reduceToNat]) (by omega) (by omega) ?_
                      rw [hS]
                      (simp (disch := (first | omega | (simp only [vlen]; first | done | omega))) only [Fits_u, Fits_m, Fits_nil, List.length_append, vmn, ↓va0, ↓va1, ↓va2, ↓va3, vb0, vb1, vb2, vb3, vb4, vb5, vb6, vb7, vb8, vb9, vb10, vz0, vz1, vy0, vx0, ↓reduceIte, Nat.reduceBEq, Nat.reduceEqDiff, Nat.reduceLT, Nat.reduceLeDiff, Nat.reduceAdd, Nat.reduceMul, Nat.reduceSub, reduceCtorEq, Int.reduceToNat] <;> (repeat' first | rfl | apply And.intro))
                      all_goals (refine vbEq ?_; simp only [Bool.true_or, Bool.false_or, Bool.true_and, Bool.false_and, Bool.or_true, Bool.or_false, Bool.and_true, Bool.and_false, Bool.or_self, Bool.and_self, *])
                  · rw [show m = i + size + 1 by omega, ← hm4 (by assumption)]
                    repeat' first | (refine Br.dec (fun h => ?_) (fun h => ?_) <;> try (exfalso; omega)) | (refine Br.eqi (fun h => ?_) (fun h => ?_) <;> try (exfalso; omega)) | (simp (disch := (first | omega | (simp only [vlen]; first | done | omega))) only [vmn, ↓va0, ↓va1, ↓va2, ↓va3, vb0, vb1, vb2, vb3, vb4, vb5, vb6, vb7, vb8, vb9, vb10, vz0, vz1, vy0, vx0, ↓reduceIte, Nat.reduceBEq, Nat.reduceEqDiff, Nat.reduceLT, Nat.reduceLeDiff, Nat.reduceAdd, Nat.reduceMul, Nat.reduceSub, reduceCtorEq, Int.reduceToNat]) | (refine Br.mk (fun h => ?_) (fun h => ?_)) | (refine BrN.mk (fun h => ?_) ?_) | (refine AltVC.mk ?_ ?_)
                    refine loopK.mk (i + 1) (by simp (disch := (first | omega | (simp only [vlen]; first | done | omega))) only [↓va0, ↓va1, ↓va2, ↓va3, vb0, vb1, vb2, vb3, vb4, vb5, vb6, vb7, vb8, vb9, vb10, vz0, vz1, vy0, vx0, ↓reduceIte, Nat.reduceBEq, Nat.reduceEqDiff, Nat.reduceLT, Nat.reduceLeDiff, Nat.reduceAdd, Nat.reduceMul, Nat.reduceSub, reduceCtorEq, Int.reduceToNat]) (by omega) (by omega) ?_
                    (simp (disch := (first | omega | (simp only [vlen]; first | done | omega))) only [Fits_u, Fits_m, Fits_nil, List.length_append, vmn, ↓va0, ↓va1, ↓va2, ↓va3, vb0, vb1, vb2, vb3, vb4, vb5, vb6, vb7, vb8, vb9, vb10, vz0, vz1, vy0, vx0, ↓reduceIte, Nat.reduceBEq, Nat.reduceEqDiff, Nat.reduceLT, Nat.reduceLeDiff, Nat.reduceAdd, Nat.reduceMul, Nat.reduceSub, reduceCtorEq, Int.reduceToNat] <;> (repeat' first | rfl | apply And.intro))
                    exact obBt (fin _ rfl)
              · refine LoopVC.mk (X := Nat) (fun m => [(6, .ref 0 1 0 l.length), (12, .v (.bool (((size : Int) == 0) || orC l w (l.getD k default).a.toNat k i (i + 1) (i + size) m))), (14, iv .i64 m)]) (fun _ => mnO l w n k (Tb l w n k size i)) (fun m => i + size + 1 - m) (fun m => i + 1 ≤ m ∧ m ≤ max (i + 1) (i + size + 1)) (i + 1) (by omega) ?_ ?_
                · rw [orC_zero, Bool.or_false]
                  unfold mnO
                  (simp (disch := (first | omega | (simp only [vlen]; first | done | omega))) only [Fits_u, Fits_m, Fits_nil, List.length_append, vmn, ↓va0, ↓va1, ↓va2, ↓va3, vb0, vb1, vb2, vb3, vb4, vb5, vb6, vb7, vb8, vb9, vb10, vz0, vz1, vy0, vx0, ↓reduceIte, Nat.reduceBEq, Nat.reduceEqDiff, Nat.reduceLT, Nat.reduceLeDiff, Nat.reduceAdd, Nat.reduceMul, Nat.reduceSub, reduceCtorEq, Int.reduceToNat] <;> (repeat' first | rfl | apply And.intro))
                  all_goals trace_state
                · rintro m ⟨hm1, hm2⟩
                  unfold mnO
                  by_cases hmj : m ≤ i + size
                  · have g1 := Nat.mul_le_mul_right n (show m + 1 ≤ n by omega)
                    rw [Nat.succ_mul] at g1
                    have hS : (((size : Int) == 0) || orC l w (l.getD k default).a.toNat k i (i + 1) (i + size) (m + 1)) = ((((size : Int) == 0) || orC l w (l.getD k default).a.toNat k i (i + 1) (i + size) m) || (mb l w (l.getD k default).a.toNat i m && mb l w k m (i + size))) := by rw [orC_succ hm1, Bool.or_assoc]
                    repeat' first | (refine Br.dec (fun h => ?_) (fun h => ?_) <;> try (exfalso; omega)) | (refine Br.eqi (fun h => ?_) (fun h => ?_) <;> try (exfalso; omega)) | (simp (disch := (first | omega | (simp only [vlen]; first | done | omega))) only [vmn, ↓va0, ↓va1, ↓va2, ↓va3, vb0, vb1, vb2, vb3, vb4, vb5, vb6, vb7, vb8, vb9, vb10, vz0, vz1, vy0, vx0, ↓reduceIte, Nat.reduceBEq, Nat.reduceEqDiff, Nat.reduceLT, Nat.reduceLeDiff, Nat.reduceAdd, Nat.reduceMul, Nat.reduceSub, reduceCtorEq, Int.reduceToNat]) | (refine Br.mk (fun h => ?_) (fun h => ?_)) | (refine BrN.mk (fun h => ?_) ?_) | (refine AltVC.mk ?_ ?_)
                    all_goals
                      refine loopK.mk (m + 1) (by simp (disch := (first | omega | (simp only [vlen]; first | done | omega))) only [↓va0, ↓va1, ↓va2, ↓va3, vb0, vb1, vb2, vb3, vb4, vb5, vb6, vb7, vb8, vb9, vb10, vz0, vz1, vy0, vx0, ↓reduceIte, Nat.reduceBEq, Nat.reduceEqDiff, Nat.reduceLT, Nat.reduceLeDiff, Nat.reduceAdd, Nat.reduceMul, Nat.reduceSub, reduceCtorEq, Int.reduceToNat]) (by omega) (by omega) ?_
                      rw [hS]
                      (simp (disch := (first | omega | (simp only [vlen]; first | done | omega))) only [Fits_u, Fits_m, Fits_nil, List.length_append, vmn, ↓va0, ↓va1, ↓va2, ↓va3, vb0, vb1, vb2, vb3, vb4, vb5, vb6, vb7, vb8, vb9, vb10, vz0, vz1, vy0, vx0, ↓reduceIte, Nat.reduceBEq, Nat.reduceEqDiff, Nat.reduceLT, Nat.reduceLeDiff, Nat.reduceAdd, Nat.reduceMul, Nat.reduceSub, reduceCtorEq, Int.reduceToNat] <;> (repeat' first | rfl | apply And.intro))
                      all_goals (refine vbEq ?_; simp only [Bool.true_or, Bool.false_or, Bool.true_and, Bool.false_and, Bool.or_true, Bool.or_false, Bool.and_true, Bool.and_false, Bool.or_self, Bool.and_self, *])
                  · rw [show m = i + size + 1 by omega, ← hm6 (by assumption)]
                    repeat' first | (refine Br.dec (fun h => ?_) (fun h => ?_) <;> try (exfalso; omega)) | (refine Br.eqi (fun h => ?_) (fun h => ?_) <;> try (exfalso; omega)) | (simp (disch := (first | omega | (simp only [vlen]; first | done | omega))) only [vmn, ↓va0, ↓va1, ↓va2, ↓va3, vb0, vb1, vb2, vb3, vb4, vb5, vb6, vb7, vb8, vb9, vb10, vz0, vz1, vy0, vx0, ↓reduceIte, Nat.reduceBEq, Nat.reduceEqDiff, Nat.reduceLT, Nat.reduceLeDiff, Nat.reduceAdd, Nat.reduceMul, Nat.reduceSub, reduceCtorEq, Int.reduceToNat]) | (refine Br.mk (fun h => ?_) (fun h => ?_)) | (refine BrN.mk (fun h => ?_) ?_) | (refine AltVC.mk ?_ ?_)
                    refine loopK.mk (i + 1) (by simp (disch := (first | omega | (simp only [vlen]; first | done | omega))) only [↓va0, ↓va1, ↓va2, ↓va3, vb0, vb1, vb2, vb3, vb4, vb5, vb6, vb7, vb8, vb9, vb10, vz0, vz1, vy0, vx0, ↓reduceIte, Nat.reduceBEq, Nat.reduceEqDiff, Nat.reduceLT, Nat.reduceLeDiff, Nat.reduceAdd, Nat.reduceMul, Nat.reduceSub, reduceCtorEq, Int.reduceToNat]) (by omega) (by omega) ?_
                    (simp (disch := (first | omega | (simp only [vlen]; first | done | omega))) only [Fits_u, Fits_m, Fits_nil, List.length_append, vmn, ↓va0, ↓va1, ↓va2, ↓va3, vb0, vb1, vb2, vb3, vb4, vb5, vb6, vb7, vb8, vb9, vb10, vz0, vz1, vy0, vx0, ↓reduceIte, Nat.reduceBEq, Nat.reduceEqDiff, Nat.reduceLT, Nat.reduceLeDiff, Nat.reduceAdd, Nat.reduceMul, Nat.reduceSub, reduceCtorEq, Int.reduceToNat] <;> (repeat' first | rfl | apply And.intro))
                    exact obBt (fin _ rfl)
              · refine loopK.mk (i + 1) (by simp (disch := (first | omega | (simp only [vlen]; first | done | omega))) only [↓va0, ↓va1, ↓va2, ↓va3, vb0, vb1, vb2, vb3, vb4, vb5, vb6, vb7, vb8, vb9, vb10, vz0, vz1, vy0, vx0, ↓reduceIte, Nat.reduceBEq, Nat.reduceEqDiff, Nat.reduceLT, Nat.reduceLeDiff, Nat.reduceAdd, Nat.reduceMul, Nat.reduceSub, reduceCtorEq, Int.reduceToNat]) (by omega) (by omega) ?_
                (simp (disch := (first | omega | (simp only [vlen]; first | done | omega))) only [Fits_u, Fits_m, Fits_nil, List.length_append, vmn, ↓va0, ↓va1, ↓va2, ↓va3, vb0, vb1, vb2, vb3, vb4, vb5, vb6, vb7, vb8, vb9, vb10, vz0, vz1, vy0, vx0, ↓reduceIte, Nat.reduceBEq, Nat.reduceEqDiff, Nat.reduceLT, Nat.reduceLeDiff, Nat.reduceAdd, Nat.reduceMul, Nat.reduceSub, reduceCtorEq, Int.reduceToNat] <;> (repeat' first | rfl | apply And.intro))
                exact obBt (fin _ (mb_1 hkl (by omega)))
            · have b0 := @bt_len (n * n) (Tb l w n k size i)
              repeat' first | (refine Br.dec (fun h => ?_) (fun h => ?_) <;> try (exfalso; omega)) | (refine Br.eqi (fun h => ?_) (fun h => ?_) <;> try (exfalso; omega)) | (simp (disch := (first | omega | (simp only [vlen]; first | done | omega))) only [vmn, ↓va0, ↓va1, ↓va2, ↓va3, vb0, vb1, vb2, vb3, vb4, vb5, vb6, vb7, vb8, vb9, vb10, vz0, vz1, vy0, vx0, ↓reduceIte, Nat.reduceBEq, Nat.reduceEqDiff, Nat.reduceLT, Nat.reduceLeDiff, Nat.reduceAdd, Nat.reduceMul, Nat.reduceSub, reduceCtorEq, Int.reduceToNat]) | (refine Br.mk (fun h => ?_) (fun h => ?_)) | (refine BrN.mk (fun h => ?_) ?_) | (refine AltVC.mk ?_ ?_)
              refine loopK.mk (size + 1) (by simp (disch := (first | omega | (simp only [vlen]; first | done | omega))) only [↓va0, ↓va1, ↓va2, ↓va3, vb0, vb1, vb2, vb3, vb4, vb5, vb6, vb7, vb8, vb9, vb10, vz0, vz1, vy0, vx0, ↓reduceIte, Nat.reduceBEq, Nat.reduceEqDiff, Nat.reduceLT, Nat.reduceLeDiff, Nat.reduceAdd, Nat.reduceMul, Nat.reduceSub, reduceCtorEq, Int.reduceToNat]) (by omega) (by omega) ?_
              (simp (disch := (first | omega | (simp only [vlen]; first | done | omega))) only [Fits_u, Fits_m, Fits_nil, List.length_append, vmn, ↓va0, ↓va1, ↓va2, ↓va3, vb0, vb1, vb2, vb3, vb4, vb5, vb6, vb7, vb8, vb9, vb10, vz0, vz1, vy0, vx0, ↓reduceIte, Nat.reduceBEq, Nat.reduceEqDiff, Nat.reduceLT, Nat.reduceLeDiff, Nat.reduceAdd, Nat.reduceMul, Nat.reduceSub, reduceCtorEq, Int.reduceToNat] <;> (repeat' first | rfl | apply And.intro))
              exact obBt fun p hp => tb_next (by omega) (by omega) p hp
        · have e1 : bt (n * n) (Tb l w n k size 0) = bt (n * n) (Mp l w n k) := bt_ext fun p hp => tb_end (by omega) (by omega) p hp
          unfold mnO
          rw [e1]
          repeat' first | (refine Br.dec (fun h => ?_) (fun h => ?_) <;> try (exfalso; omega)) | (refine Br.eqi (fun h => ?_) (fun h => ?_) <;> try (exfalso; omega)) | (simp (disch := (first | omega | (simp only [vlen]; first | done | omega))) only [vmn, ↓va0, ↓va1, ↓va2, ↓va3, vb0, vb1, vb2, vb3, vb4, vb5, vb6, vb7, vb8, vb9, vb10, vz0, vz1, vy0, vx0, ↓reduceIte, Nat.reduceBEq, Nat.reduceEqDiff, Nat.reduceLT, Nat.reduceLeDiff, Nat.reduceAdd, Nat.reduceMul, Nat.reduceSub, reduceCtorEq, Int.reduceToNat]) | (refine Br.mk (fun h => ?_) (fun h => ?_)) | (refine BrN.mk (fun h => ?_) ?_) | (refine AltVC.mk ?_ ?_)
          refine loopK.frz 2 ?_
          repeat' first | (refine Br.dec (fun h => ?_) (fun h => ?_) <;> try (exfalso; omega)) | (refine Br.eqi (fun h => ?_) (fun h => ?_) <;> try (exfalso; omega)) | (simp (disch := (first | omega | (simp only [vlen]; first | done | omega))) only [vmn, ↓va0, ↓va1, ↓va2, ↓va3, vb0, vb1, vb2, vb3, vb4, vb5, vb6, vb7, vb8, vb9, vb10, vz0, vz1, vy0, vx0, ↓reduceIte, Nat.reduceBEq, Nat.reduceEqDiff, Nat.reduceLT, Nat.reduceLeDiff, Nat.reduceAdd, Nat.reduceMul, Nat.reduceSub, reduceCtorEq, Int.reduceToNat]) | (refine Br.mk (fun h => ?_) (fun h => ?_)) | (refine BrN.mk (fun h => ?_) ?_) | (refine AltVC.mk ?_ ?_)
          refine loopK.flt 0 ?_
          repeat' first | (refine Br.dec (fun h => ?_) (fun h => ?_) <;> try (exfalso; omega)) | (refine Br.eqi (fun h => ?_) (fun h => ?_) <;> try (exfalso; omega)) | (simp (disch := (first | omega | (simp only [vlen]; first | done | omega))) only [vmn, ↓va0, ↓va1, ↓va2, ↓va3, vb0, vb1, vb2, vb3, vb4, vb5, vb6, vb7, vb8, vb9, vb10, vz0, vz1, vy0, vx0, ↓reduceIte, Nat.reduceBEq, Nat.reduceEqDiff, Nat.reduceLT, Nat.reduceLeDiff, Nat.reduceAdd, Nat.reduceMul, Nat.reduceSub, reduceCtorEq, Int.reduceToNat]) | (refine Br.mk (fun h => ?_) (fun h => ?_)) | (refine BrN.mk (fun h => ?_) ?_) | (refine AltVC.mk ?_ ?_)
          refine Chk.mk (tabD_all fun j hj => by (repeat' split) <;> simp [mrow_clo, clo'_sl, clo'_nl]) ?_
          refine loopK.mk (k + 1) (by simp (disch := (first | omega | (simp only [vlen]; first | done | omega))) only [↓va0, ↓va1, ↓va2, ↓va3, vb0, vb1, vb2, vb3, vb4, vb5, vb6, vb7, vb8, vb9, vb10, vz0, vz1, vy0, vx0, ↓reduceIte, Nat.reduceBEq, Nat.reduceEqDiff, Nat.reduceLT, Nat.reduceLeDiff, Nat.reduceAdd, Nat.reduceMul, Nat.reduceSub, reduceCtorEq, Int.reduceToNat]) (by omega) (by omega) ?_
          (simp (disch := (first | omega | (simp only [vlen]; first | done | omega))) only [Fits_u, Fits_m, Fits_nil, List.length_append, vmn, ↓va0, ↓va1, ↓va2, ↓va3, vb0, vb1, vb2, vb3, vb4, vb5, vb6, vb7, vb8, vb9, vb10, vz0, vz1, vy0, vx0, ↓reduceIte, Nat.reduceBEq, Nat.reduceEqDiff, Nat.reduceLT, Nat.reduceLeDiff, Nat.reduceAdd, Nat.reduceMul, Nat.reduceSub, reduceCtorEq, Int.reduceToNat] <;> (repeat' first | rfl | apply And.intro))
          exact obTabD fun j hj => by
            by_cases e : j = k
            · subst e; rw [if_pos rfl, if_pos (by omega)]; rfl
            · rw [if_neg e]; (repeat' split) <;> first | rfl | omega
    · have b0 := @bt_len (n * n) (Mp l w n (l.length - 1))
      have h1 := Nat.le_mul_of_pos_left n (show 0 < n by omega)
      repeat' first | (refine Br.dec (fun h => ?_) (fun h => ?_) <;> try (exfalso; omega)) | (refine Br.eqi (fun h => ?_) (fun h => ?_) <;> try (exfalso; omega)) | (simp (disch := (first | omega | (simp only [vlen]; first | done | omega))) only [vmn, ↓va0, ↓va1, ↓va2, ↓va3, vb0, vb1, vb2, vb3, vb4, vb5, vb6, vb7, vb8, vb9, vb10, vz0, vz1, vy0, vx0, ↓reduceIte, Nat.reduceBEq, Nat.reduceEqDiff, Nat.reduceLT, Nat.reduceLeDiff, Nat.reduceAdd, Nat.reduceMul, Nat.reduceSub, reduceCtorEq, Int.reduceToNat]) | (refine Br.mk (fun h => ?_) (fun h => ?_)) | (refine BrN.mk (fun h => ?_) ?_) | (refine AltVC.mk ?_ ?_)
      refine fin_mk (vbEq ?_)
      have h2 := @Mp_at l w n (l.length - 1) 0 (n - 1) (by omega)
      rw [Nat.zero_mul, Nat.zero_add] at h2
      show Mp l w n (l.length - 1) (n - 1) = _
      rw [h2, show n - 1 = w.length by omega]
end Go.Proofs.Ytmhpfgklfpgniaa
