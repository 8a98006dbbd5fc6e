/-
 Texts of this claim, one behind another.
-/
import Derived.Test.YtdncgpgfnclifaaMg14
import Derived.Test.YtdncgpgfnclifaaMg12
namespace Go.Proofs.Ytdncgpgfnclifaa
open Go.Dm
set_option linter.unusedSimpArgs false
set_option linter.unnecessarySimpa false
set_option linter.unusedVariables false
set_option linter.defProp false
def bt (n : Nat) (f : Nat → Bool) : List Bool := (List.range n).map f
theorem bt_rep {n : Nat} : List.replicate n false = bt n fun _ => false := by apply List.ext_getElem <;> simp [bt]
theorem bt_len {n : Nat} {f : Nat → Bool} : (bt n f).length = n := by simp [bt]
theorem bt_get {n i : Nat} {f : Nat → Bool} {d : Bool} (h : i < n) : (bt n f).getD i d = f i := by simp [bt, List.getD, h]
theorem bt_set {n i : Nat} {f : Nat → Bool} {x : Bool} : (bt n f).set i x = bt n fun j => if j = i then x else f j := by
  apply List.ext_getElem
  · simp [bt]
  · intro j h1 h2
    simp only [bt, List.getElem_set, List.getElem_map, List.getElem_range]
    by_cases e : i = j
    · rw [if_pos e, if_pos e.symm]
    · rw [if_neg e, if_neg (fun h => e h.symm)]
theorem bt_ext {n : Nat} {f g : Nat → Bool} (h : ∀ j, j < n → f j = g j) : bt n f = bt n g := by
  unfold bt
  exact List.map_congr_left fun j hj => h j (List.mem_range.mp hj)
theorem obBt {n : Nat} {f g : Nat → Bool} {a b : Bool} {c : Kd} (h : ∀ j, j < n → f j = g j) : some (⟨1, bls (bt n f), a, b, c⟩ : Ob) = some ⟨1, bls (bt n g), a, b, c⟩ := by rw [bt_ext h]
theorem viewO_bt {N : Nat} {f : Nat → Bool} : viewO (some ⟨1, bls (bt N f), true, false, .arr⟩) 1 0 N = .sl 1 (bls (bt N f)) := viewO_all (by simp [bt_len, bls])
theorem dv {n i j : Nat} (h : j < n) : (i * n + j) / n = i := by
  rw [Nat.mul_comm, Nat.mul_add_div (by omega), Nat.div_eq_of_lt h, Nat.add_zero]
theorem md {n i j : Nat} (h : j < n) : (i * n + j) % n = j := by
  rw [Nat.mul_comm, Nat.mul_add_mod, Nat.mod_eq_of_lt h]
open Classical in
noncomputable def mb (l : List Dm.Node) (w : List Int) (k i j : Nat) : Bool := decide (Mt l w k i j)
noncomputable def Mp (l : List Dm.Node) (w : List Int) (n k p : Nat) : Bool := mb l w k (p / n) (p % n)
theorem Mp_at {l : List Dm.Node} {w : List Int} {n k i m : Nat} (h : m < n) : Mp l w n k (i * n + m) = mb l w k i m := by rw [Mp, dv h, md h]
noncomputable def Tb (l : List Dm.Node) (w : List Int) (n k size i p : Nat) : Bool := decide (p % n < p / n + size ∨ (p % n = p / n + size ∧ p / n < i)) && mb l w k (p / n) (p % n)
section
variable {l : List Dm.Node} {w : List Int} {n k size i : Nat}
open Classical in
theorem mb_le {j : Nat} (h : j < i) : mb l w k i j = false := by
  unfold mb; exact decide_eq_false fun e => by have := e.1; omega
theorem tb_zero {p : Nat} : false = Tb l w n k 0 0 p := by
  unfold Tb
  by_cases h : p % n < p / n + 0 ∨ (p % n = p / n + 0 ∧ p / n < 0)
  · rw [mb_le (by omega), Bool.and_false]
  · rw [decide_eq_false h, Bool.false_and]
theorem tb_at {j m : Nat} (hj : j < n) (h : j < m + size) : Tb l w n k size i (m * n + j) = mb l w k m j := by
  unfold Tb; rw [dv hj, md hj, decide_eq_true (by omega), Bool.true_and]
theorem tb_step {b : Bool} (hj : i + size < n) (hb : b = mb l w k i (i + size)) : ∀ p, p < n * n → (if p = i * n + (i + size) then b else Tb l w n k size i p) = Tb l w n k size (i + 1) p := by
  intro p hp
  by_cases e : p = i * n + (i + size)
  · rw [if_pos e, e]
    unfold Tb
    rw [dv hj, md hj, decide_eq_true (by omega), Bool.true_and, hb]
  · rw [if_neg e]
    unfold Tb
    congr 1
    refine dec_iff ⟨fun h => by omega, fun h => ?_⟩
    have hp2 := Nat.div_add_mod p n
    rcases h with h | ⟨h1, h2⟩
    · exact .inl h
    · by_cases e2 : p / n = i
      · exact absurd (by rw [← hp2, h1, e2, Nat.mul_comm]) e
      · exact .inr ⟨h1, by omega⟩
theorem tb_next (hn : 0 < n) (h : n ≤ i + size) : ∀ p, p < n * n → Tb l w n k size i p = Tb l w n k (size + 1) 0 p := by
  intro p hp
  unfold Tb
  congr 1
  have := Nat.mod_lt p hn
  generalize p / n = a at *
  generalize p % n = b at *
  exact dec_iff (by omega)
theorem tb_end (hn : 0 < n) (h : n ≤ size) : ∀ p, p < n * n → Tb l w n k size 0 p = Mp l w n k p := by
  intro p hp
  unfold Tb Mp
  have := Nat.mod_lt p hn
  have h2 : p % n < p / n + size := Nat.lt_of_lt_of_le this (Nat.le_trans h (Nat.le_add_left _ _))
  rw [decide_eq_true (.inl h2), Bool.true_and]
open Classical in
noncomputable def orC (l : List Dm.Node) (w : List Int) (a b i lo j m : Nat) : Bool := decide (∃ q, lo ≤ q ∧ q < m ∧ Mt l w a i q ∧ Mt l w b q j)
open Classical in
theorem orC_zero {a b lo j : Nat} : orC l w a b i lo j lo = false := by
  unfold orC; exact decide_eq_false fun ⟨q, h1, h2, _⟩ => by omega
open Classical in
theorem orC_succ {a b lo j m : Nat} (h : lo ≤ m) : orC l w a b i lo j (m + 1) = (orC l w a b i lo j m || (mb l w a i m && mb l w b m j)) := by
  unfold orC mb
  rw [Bool.eq_iff_iff]
  simp only [Bool.or_eq_true, Bool.and_eq_true, decide_eq_true_eq]
  constructor
  · rintro ⟨q, h1, h2, h3, h4⟩
    by_cases e : q = m
    · subst e; exact .inr ⟨h3, h4⟩
    · exact .inl ⟨q, h1, by omega, h3, h4⟩
  · rintro (⟨q, h1, h2, h3, h4⟩ | ⟨h3, h4⟩)
    · exact ⟨q, h1, by omega, h3, h4⟩
    · exact ⟨m, h, by omega, h3, h4⟩
variable {K : Int}
open Classical in
theorem mb_1 (h : k < l.length) (e : (l.getD k default).kind = 1) : false = mb l w k i (i + size) := by
  unfold mb; exact (decide_eq_false (mt_1 h e)).symm
open Classical in
theorem mb_2 (h : k < l.length) (hj : i + size ≤ w.length) (e : (l.getD k default).kind = 2) : ((size : Int) == 0) = mb l w k i (i + size) := by
  unfold mb
  rw [Bool.eq_iff_iff, decide_eq_true_eq, mt_2 h e hj, beq_iff_eq]
  omega
open Classical in
theorem mb_3 (h : k < l.length) (hj : i + size ≤ w.length) (e : (l.getD k default).kind = 3) (hs : (size : Int) = 1) : (w.getD i 0 == (l.getD k default).a) = mb l w k i (i + size) := by
  unfold mb
  rw [Bool.eq_iff_iff, decide_eq_true_eq, mt_3 h e hj, beq_iff_eq]
  exact ⟨fun h => ⟨by omega, h⟩, fun h => h.2⟩
open Classical in
theorem mb_3n (h : k < l.length) (hj : i + size ≤ w.length) (e : (l.getD k default).kind = 3) (hs : ¬ (size : Int) = 1) : false = mb l w k i (i + size) := by
  unfold mb; exact (decide_eq_false fun h2 => by rw [mt_3 h e hj] at h2; omega).symm
open Classical in
theorem mb_5 {j : Nat} (hv : NodesOk K l) (h : k < l.length) (hj : j ≤ w.length) (e : (l.getD k default).kind = 5) : mb l w k i j = (mb l w (l.getD k default).a.toNat i j || mb l w (l.getD k default).b.toNat i j) := by
  unfold mb
  rw [Bool.eq_iff_iff, Bool.or_eq_true, decide_eq_true_eq, decide_eq_true_eq, decide_eq_true_eq, mt_5 hv h e]
open Classical in
theorem mb_4 {j : Nat} (hv : NodesOk K l) (h : k < l.length) (hj : j ≤ w.length) (e : (l.getD k default).kind = 4) : mb l w k i j = orC l w (l.getD k default).a.toNat (l.getD k default).b.toNat i i j (j + 1) := by
  unfold mb orC
  rw [Bool.eq_iff_iff, decide_eq_true_eq, decide_eq_true_eq, mt_4 hv h e hj]
  exact ⟨fun ⟨m, a, b, c⟩ => ⟨m, a, by omega, c⟩, fun ⟨m, a, b, c⟩ => ⟨m, a, by omega, c⟩⟩
open Classical in
theorem mb_6 (hv : NodesOk K l) (h : k < l.length) (hj : i + size ≤ w.length) (e : (l.getD k default).kind = 6) : mb l w k i (i + size) = (((size : Int) == 0) || orC l w (l.getD k default).a.toNat k i (i + 1) (i + size) (i + size + 1)) := by
  unfold mb orC
  rw [Bool.eq_iff_iff, Bool.or_eq_true, decide_eq_true_eq, decide_eq_true_eq, mt_6 hv h e (by omega) hj, beq_iff_eq]
  constructor
  · rintro (h | ⟨m, a, b, c⟩)
    · exact .inl (by omega)
    · exact .inr ⟨m, a, by omega, c⟩
  · rintro (h | ⟨m, a, b, c⟩)
    · exact .inl (by omega)
    · exact .inr ⟨m, a, by omega, c⟩
end
noncomputable def mrow (l : List Dm.Node) (w : List Int) (n k : Nat) : D := .sl 1 (bls (bt (n * n) (Mp l w n k)))
section
variable {l : List Dm.Node} {w : List Int} {N k : Nat} {s : S} {τ n : Nat} {ob : Ob} {f : Nat → Nat} {ι : List Nat}
theorem mrow_view : s.view (mrow l w N k) = mrow l w N k := by simp [mrow, view_sl]
theorem mrow_owned : (mrow l w N k).owned = false := by simp [mrow, owned_sl]
theorem mrow_cl : (mrow l w N k).cl = true := by simp [mrow, cl_sl]
theorem mrow_clo : (mrow l w N k).clo' = true := by simp [mrow, clo'_sl]
theorem mrow_kill : (mrow l w N k).kill τ = mrow l w N k := by simp [mrow, kill_sl]
theorem mrow_trim : (mrow l w N k).trim n = mrow l w N k := by simp [mrow, trim_sl]
theorem mrow_frz : (mrow l w N k).frz τ ob = mrow l w N k := by simp [mrow, frz_sl]
theorem mrow_keep : (mrow l w N k).keep s = mrow l w N k := by simp [mrow, keep_sl]
theorem mrow_kOwn {i o : Nat} {k' : S → D → Prop} : kOwn s τ i o ob k' (mrow l w N k) = k' s (mrow l w N k) := by unfold mrow; rfl
theorem mrow_kIdx {d : D} {sz : Nat} {k' : D → Prop} : kIdx (mrow l w N k) d sz k' = kIdx (.sl 1 (bls (bt (N * N) (Mp l w N k)))) d sz k' := (rfl)
end
theorem nat_mul {a b : Nat} : ((a : Int) * (b : Int)).toNat = a * b := by rw [← Int.natCast_mul, Int.toNat_natCast]
theorem nat_mad {a b c : Nat} : ((a : Int) * (b : Int) + (c : Int)).toNat = a * b + c := by rw [← Int.natCast_mul]; omega
theorem nat_mad2 {a b c d : Nat} : ((a : Int) * (b : Int) + ((c : Int) + (d : Int))).toNat = a * b + (c + d) := by rw [← Int.natCast_mul]; omega
def vmn := And.intro @bt_len <| And.intro @bt_get <| And.intro @bt_set <| And.intro @bt_rep <| And.intro @viewO_bt <| And.intro @mrow_view <| And.intro @mrow_owned <| And.intro @mrow_cl <| And.intro @mrow_clo <| And.intro @mrow_kill <| And.intro @mrow_trim <| And.intro @mrow_frz <| And.intro @mrow_keep <| And.intro @mrow_kOwn <| And.intro @mrow_kIdx <| And.intro @nat_mul <| And.intro @nat_mad <| And.intro @nat_mad2 <| And.intro @Mp_at <| And.intro @tb_at @Int.add_sub_cancel
noncomputable def mnO (l : List Dm.Node) (w : List Int) (n k : Nat) (f : Nat → Bool) : List (Nat × Ob) := [(0, ⟨1, tabD l.length fun a => if a = k then .ref 2 1 0 (n * n) else if a < k then mrow l w n a else .nl, false, false, .arr⟩), (1, ⟨3, [nodD (l.getD k default)], true, false, .fix⟩), (2, ⟨1, bls (bt (n * n) f), true, false, .arr⟩)]
set_option maxRecDepth 10000 in
set_option maxHeartbeats 4000000 in
theorem means_spec (k0 : Int) (l : List Dm.Node) (hv : NodesOk k0 l) (hl : 0 < l.length ∧ l.length ≤ 5000) (w : List Int) (hw : w.length ≤ 100) : Dm.Spec Try.prog 8 [.sl 3 (tbl nodD l), .sl 1 (i64s w)] (· = .v (.bool (mb l w (l.length - 1) 0 w.length))) := by
  refine spec_of_vc mixed Try.func8 c8 (by rw [show Try.f8.ntmps = _ from Try.ntmps8]; simp) ?_
  unfold m8 r8
  obtain ⟨n, hn⟩ : ∃ n : Nat, (w.length : Int) + 1 = n := ⟨w.length + 1, by omega⟩
  have hnn := Nat.mul_le_mul (show n ≤ 101 by omega) (show n ≤ 101 by omega)
  repeat' first | ((first | refine Br.dec ?_ ?_ | refine Br.eqi ?_ ?_) <;> intro h <;> try (exfalso; omega)) | (simp (disch := first | omega | (simp only [vlen]; first | done | omega)) only [vmn, ↓vAq, vBq, ↓reduceIte, Nat.reduceBEq, Nat.reduceEqDiff, Nat.reduceLT, Nat.reduceLeDiff, Nat.reduceAdd, Nat.reduceMul, Nat.reduceSub, reduceCtorEq, Int.reduceToNat]) | (refine Br.mk ?_ ?_ <;> intro h) | (refine BrN.mk (fun h => ?_) ?_) | (refine AltVC.mk ?_ ?_)
  rw [tabD_rep, hn]
  refine LoopVC.mk (X := Nat) (fun k => [(6, .ref 0 1 0 l.length), (23, iv .i64 k)]) (fun k => [(0, ⟨1, tabD l.length fun a => if a < k then mrow l w n a else .nl, true, false, .arr⟩)]) (fun k => l.length - k) (fun k => k ≤ l.length) 0 (by omega) ?_ ?_
  · (simp (disch := first | omega | (simp only [vlen]; first | done | omega)) only [Fits_u, Fits_m, Fits_nil, List.length_append, vmn, ↓vAq, vBq, ↓reduceIte, Nat.reduceBEq, Nat.reduceEqDiff, Nat.reduceLT, Nat.reduceLeDiff, Nat.reduceAdd, Nat.reduceMul, Nat.reduceSub, reduceCtorEq, Int.reduceToNat] <;> (repeat' first | rfl | apply And.intro))
    all_goals trace_state
  · intro k hk
    by_cases hkl : k < l.length
    · have hx := hv k hkl
      unfold NodeOk at hx
      obtain ⟨x1, x2, x3, x4, x5⟩ := hx
      repeat' first | ((first | refine Br.dec ?_ ?_ | refine Br.eqi ?_ ?_) <;> intro h <;> try (exfalso; omega)) | (simp (disch := first | omega | (simp only [vlen]; first | done | omega)) only [vmn, ↓vAq, vBq, ↓reduceIte, Nat.reduceBEq, Nat.reduceEqDiff, Nat.reduceLT, Nat.reduceLeDiff, Nat.reduceAdd, Nat.reduceMul, Nat.reduceSub, reduceCtorEq, Int.reduceToNat]) | (refine Br.mk ?_ ?_ <;> intro h) | (refine BrN.mk (fun h => ?_) ?_) | (refine AltVC.mk ?_ ?_)
      refine LoopVC.mk (X := Nat) (fun size => [(6, .ref 0 1 0 l.length), (9, iv .i64 size)]) (fun size => mnO l w n k (Tb l w n k size 0)) (fun size => n - size) (fun size => size ≤ n) 0 (by omega) ?_ ?_
      · unfold mnO
        (simp (disch := first | omega | (simp only [vlen]; first | done | omega)) only [Fits_u, Fits_m, Fits_nil, List.length_append, vmn, ↓vAq, vBq, ↓reduceIte, Nat.reduceBEq, Nat.reduceEqDiff, Nat.reduceLT, Nat.reduceLeDiff, Nat.reduceAdd, Nat.reduceMul, Nat.reduceSub, reduceCtorEq, Int.reduceToNat] <;> (repeat' first | rfl | apply And.intro))
        exact obBt fun p hp => tb_zero
      · intro size hsz
        by_cases hsn : size < n
        · unfold mnO
          repeat' first | ((first | refine Br.dec ?_ ?_ | refine Br.eqi ?_ ?_) <;> intro h <;> try (exfalso; omega)) | (simp (disch := first | omega | (simp only [vlen]; first | done | omega)) only [vmn, ↓vAq, vBq, ↓reduceIte, Nat.reduceBEq, Nat.reduceEqDiff, Nat.reduceLT, Nat.reduceLeDiff, Nat.reduceAdd, Nat.reduceMul, Nat.reduceSub, reduceCtorEq, Int.reduceToNat]) | (refine Br.mk ?_ ?_ <;> intro h) | (refine BrN.mk (fun h => ?_) ?_) | (refine AltVC.mk ?_ ?_)
          refine LoopVC.mk (X := Nat) (fun i => [(6, .ref 0 1 0 l.length), (10, iv .i64 i)]) (fun i => mnO l w n k (Tb l w n k size i)) (fun i => n - i) (fun i => i + size ≤ n) 0 (by omega) ?_ ?_
          · unfold mnO
            (simp (disch := first | omega | (simp only [vlen]; first | done | omega)) only [Fits_u, Fits_m, Fits_nil, List.length_append, vmn, ↓vAq, vBq, ↓reduceIte, Nat.reduceBEq, Nat.reduceEqDiff, Nat.reduceLT, Nat.reduceLeDiff, Nat.reduceAdd, Nat.reduceMul, Nat.reduceSub, reduceCtorEq, Int.reduceToNat] <;> (repeat' first | rfl | apply And.intro))
            all_goals trace_state
          · intro i hi
            unfold mnO
            by_cases hin : i + size < n
            · have h1 := Nat.mul_le_mul_right n (show i + 1 ≤ n by omega)
              rw [Nat.succ_mul] at h1
              have h2 := hv k hkl
              obtain ⟨K, hK⟩ : ∃ K, (l.getD k default).kind = K := ⟨_, rfl⟩
              have b0 := @bt_len (n * n) (Tb l w n k size i)
              have b1 := @bt_len (n * n) (Mp l w n (l.getD k default).a.toNat)
              have b2 := @bt_len (n * n) (Mp l w n (l.getD k default).b.toNat)
              have fin := fun b hb => @tb_step l w n k size i b hin hb
              have hj : i + size ≤ w.length := by omega
              have hm5 := fun e => @mb_5 l w k i k0 (i + size) hv hkl hj e
              have hm4 := fun e => @mb_4 l w k i k0 (i + size) hv hkl hj e
              have hm6 := fun e => @mb_6 l w k size i k0 hv hkl hj e
              repeat' first | ((first | refine Br.dec ?_ ?_ | refine Br.eqi ?_ ?_) <;> intro h <;> try (exfalso; omega)) | (simp (disch := first | omega | (simp only [vlen]; first | done | omega)) only [vmn, ↓vAq, vBq, ↓reduceIte, Nat.reduceBEq, Nat.reduceEqDiff, Nat.reduceLT, Nat.reduceLeDiff, Nat.reduceAdd, Nat.reduceMul, Nat.reduceSub, reduceCtorEq, Int.reduceToNat]) | (refine Br.mk ?_ ?_ <;> intro h) | (refine BrN.mk (fun h => ?_) ?_) | (refine AltVC.mk ?_ ?_)
              · refine loopK.mk (i + 1) (by simp (disch := first | omega | (simp only [vlen]; first | done | omega)) only [↓vAq, vBq, ↓reduceIte, Nat.reduceBEq, Nat.reduceEqDiff, Nat.reduceLT, Nat.reduceLeDiff, Nat.reduceAdd, Nat.reduceMul, Nat.reduceSub, reduceCtorEq, Int.reduceToNat]) (by omega) (by omega) ?_
                (simp (disch := first | omega | (simp only [vlen]; first | done | omega)) only [Fits_u, Fits_m, Fits_nil, List.length_append, vmn, ↓vAq, vBq, ↓reduceIte, Nat.reduceBEq, Nat.reduceEqDiff, Nat.reduceLT, Nat.reduceLeDiff, Nat.reduceAdd, Nat.reduceMul, Nat.reduceSub, reduceCtorEq, Int.reduceToNat] <;> (repeat' first | rfl | apply And.intro))
                exact obBt (fin _ (mb_2 hkl hj (by assumption)))
              · refine loopK.mk (i + 1) (by simp (disch := first | omega | (simp only [vlen]; first | done | omega)) only [↓vAq, vBq, ↓reduceIte, Nat.reduceBEq, Nat.reduceEqDiff, Nat.reduceLT, Nat.reduceLeDiff, Nat.reduceAdd, Nat.reduceMul, Nat.reduceSub, reduceCtorEq, Int.reduceToNat]) (by omega) (by omega) ?_
                (simp (disch := first | omega | (simp only [vlen]; first | done | omega)) only [Fits_u, Fits_m, Fits_nil, List.length_append, vmn, ↓vAq, vBq, ↓reduceIte, Nat.reduceBEq, Nat.reduceEqDiff, Nat.reduceLT, Nat.reduceLeDiff, Nat.reduceAdd, Nat.reduceMul, Nat.reduceSub, reduceCtorEq, Int.reduceToNat] <;> (repeat' first | rfl | apply And.intro))
                exact obBt (fin _ (mb_3 hkl hj (by assumption) (by assumption)))
              · refine loopK.mk (i + 1) (by simp (disch := first | omega | (simp only [vlen]; first | done | omega)) only [↓vAq, vBq, ↓reduceIte, Nat.reduceBEq, Nat.reduceEqDiff, Nat.reduceLT, Nat.reduceLeDiff, Nat.reduceAdd, Nat.reduceMul, Nat.reduceSub, reduceCtorEq, Int.reduceToNat]) (by omega) (by omega) ?_
                (simp (disch := first | omega | (simp only [vlen]; first | done | omega)) only [Fits_u, Fits_m, Fits_nil, List.length_append, vmn, ↓vAq, vBq, ↓reduceIte, Nat.reduceBEq, Nat.reduceEqDiff, Nat.reduceLT, Nat.reduceLeDiff, Nat.reduceAdd, Nat.reduceMul, Nat.reduceSub, reduceCtorEq, Int.reduceToNat] <;> (repeat' first | rfl | apply And.intro))
                exact obBt (fin _ (mb_3n hkl hj (by assumption) (by assumption)))
              · refine loopK.mk (i + 1) (by simp (disch := first | omega | (simp only [vlen]; first | done | omega)) only [↓vAq, vBq, ↓reduceIte, Nat.reduceBEq, Nat.reduceEqDiff, Nat.reduceLT, Nat.reduceLeDiff, Nat.reduceAdd, Nat.reduceMul, Nat.reduceSub, reduceCtorEq, Int.reduceToNat]) (by omega) (by omega) ?_
                (simp (disch := first | omega | (simp only [vlen]; first | done | omega)) only [Fits_u, Fits_m, Fits_nil, List.length_append, vmn, ↓vAq, vBq, ↓reduceIte, Nat.reduceBEq, Nat.reduceEqDiff, Nat.reduceLT, Nat.reduceLeDiff, Nat.reduceAdd, Nat.reduceMul, Nat.reduceSub, reduceCtorEq, Int.reduceToNat] <;> (repeat' first | rfl | apply And.intro))
                exact obBt (fin _ (by rw [hm5 (by assumption)]; simp only [Bool.true_or, Bool.false_or, Bool.true_and, Bool.false_and, Bool.or_true, Bool.or_false, Bool.and_true, Bool.and_false, Bool.or_self, Bool.and_self, *]))
              · refine loopK.mk (i + 1) (by simp (disch := first | omega | (simp only [vlen]; first | done | omega)) only [↓vAq, vBq, ↓reduceIte, Nat.reduceBEq, Nat.reduceEqDiff, Nat.reduceLT, Nat.reduceLeDiff, Nat.reduceAdd, Nat.reduceMul, Nat.reduceSub, reduceCtorEq, Int.reduceToNat]) (by omega) (by omega) ?_
                (simp (disch := first | omega | (simp only [vlen]; first | done | omega)) only [Fits_u, Fits_m, Fits_nil, List.length_append, vmn, ↓vAq, vBq, ↓reduceIte, Nat.reduceBEq, Nat.reduceEqDiff, Nat.reduceLT, Nat.reduceLeDiff, Nat.reduceAdd, Nat.reduceMul, Nat.reduceSub, reduceCtorEq, Int.reduceToNat] <;> (repeat' first | rfl | apply And.intro))
                exact obBt (fin _ (by rw [hm5 (by assumption)]; simp only [Bool.true_or, Bool.false_or, Bool.true_and, Bool.false_and, Bool.or_true, Bool.or_false, Bool.and_true, Bool.and_false, Bool.or_self, Bool.and_self, *]))
              · refine LoopVC.mk (X := Nat) (fun m => [(6, .ref 0 1 0 l.length), (12, .v (.bool (orC l w (l.getD k default).a.toNat (l.getD k default).b.toNat i i (i + size) m))), (13, iv .i64 m)]) (fun _ => mnO l w n k (Tb l w n k size i)) (fun m => i + size + 1 - m) (fun m => i ≤ m ∧ m ≤ i + size + 1) i (by omega) ?_ ?_
                · rw [orC_zero]
                  unfold mnO
                  (simp (disch := first | omega | (simp only [vlen]; first | done | omega)) only [Fits_u, Fits_m, Fits_nil, List.length_append, vmn, ↓vAq, vBq, ↓reduceIte, Nat.reduceBEq, Nat.reduceEqDiff, Nat.reduceLT, Nat.reduceLeDiff, Nat.reduceAdd, Nat.reduceMul, Nat.reduceSub, reduceCtorEq, Int.reduceToNat] <;> (repeat' first | rfl | apply And.intro))
                  all_goals trace_state
                · rintro m ⟨hm1, hm2⟩
                  unfold mnO
                  by_cases hmj : m ≤ i + size
                  · have g1 := Nat.mul_le_mul_right n (show m + 1 ≤ n by omega)
                    rw [Nat.succ_mul] at g1
                    have hS := @orC_succ l w i (l.getD k default).a.toNat (l.getD k default).b.toNat i (i + size) m hm1
                    repeat' first | ((first | refine Br.dec ?_ ?_ | refine Br.eqi ?_ ?_) <;> intro h <;> try (exfalso; omega)) | (simp (disch := first | omega | (simp only [vlen]; first | done | omega)) only [vmn, ↓vAq, vBq, ↓reduceIte, Nat.reduceBEq, Nat.reduceEqDiff, Nat.reduceLT, Nat.reduceLeDiff, Nat.reduceAdd, Nat.reduceMul, Nat.reduceSub, reduceCtorEq, Int.reduceToNat]) | (refine Br.mk ?_ ?_ <;> intro h) | (refine BrN.mk (fun h => ?_) ?_) | (refine AltVC.mk ?_ ?_)
                    all_goals
                      refine loopK.mk (m + 1) (by simp (disch := first | omega | (simp only [vlen]; first | done | omega)) only [↓vAq, vBq, ↓reduceIte, Nat.reduceBEq, Nat.reduceEqDiff, Nat.reduceLT, Nat.reduceLeDiff, Nat.reduceAdd, Nat.reduceMul, Nat.reduceSub, reduceCtorEq, Int.reduceToNat]) (by omega) (by omega) ?_
                      rw [hS]
                      (simp (disch := first | omega | (simp only [vlen]; first | done | omega)) only [Fits_u, Fits_m, Fits_nil, List.length_append, vmn, ↓vAq, vBq, ↓reduceIte, Nat.reduceBEq, Nat.reduceEqDiff, Nat.reduceLT, Nat.reduceLeDiff, Nat.reduceAdd, Nat.reduceMul, Nat.reduceSub, reduceCtorEq, Int.reduceToNat] <;> (repeat' first | rfl | apply And.intro))
                      all_goals (refine vbEq ?_; simp only [Bool.true_or, Bool.false_or, Bool.true_and, Bool.false_and, Bool.or_true, Bool.or_false, Bool.and_true, Bool.and_false, Bool.or_self, Bool.and_self, *])
                  · rw [show m = i + size + 1 by omega, ← hm4 (by assumption)]
                    repeat' first | ((first | refine Br.dec ?_ ?_ | refine Br.eqi ?_ ?_) <;> intro h <;> try (exfalso; omega)) | (simp (disch := first | omega | (simp only [vlen]; first | done | omega)) only [vmn, ↓vAq, vBq, ↓reduceIte, Nat.reduceBEq, Nat.reduceEqDiff, Nat.reduceLT, Nat.reduceLeDiff, Nat.reduceAdd, Nat.reduceMul, Nat.reduceSub, reduceCtorEq, Int.reduceToNat]) | (refine Br.mk ?_ ?_ <;> intro h) | (refine BrN.mk (fun h => ?_) ?_) | (refine AltVC.mk ?_ ?_)
                    refine loopK.mk (i + 1) (by simp (disch := first | omega | (simp only [vlen]; first | done | omega)) only [↓vAq, vBq, ↓reduceIte, Nat.reduceBEq, Nat.reduceEqDiff, Nat.reduceLT, Nat.reduceLeDiff, Nat.reduceAdd, Nat.reduceMul, Nat.reduceSub, reduceCtorEq, Int.reduceToNat]) (by omega) (by omega) ?_
                    (simp (disch := first | omega | (simp only [vlen]; first | done | omega)) only [Fits_u, Fits_m, Fits_nil, List.length_append, vmn, ↓vAq, vBq, ↓reduceIte, Nat.reduceBEq, Nat.reduceEqDiff, Nat.reduceLT, Nat.reduceLeDiff, Nat.reduceAdd, Nat.reduceMul, Nat.reduceSub, reduceCtorEq, Int.reduceToNat] <;> (repeat' first | rfl | apply And.intro))
                    exact obBt (fin _ rfl)
              · refine LoopVC.mk (X := Nat) (fun m => [(6, .ref 0 1 0 l.length), (12, .v (.bool (((size : Int) == 0) || orC l w (l.getD k default).a.toNat k i (i + 1) (i + size) m))), (14, iv .i64 m)]) (fun _ => mnO l w n k (Tb l w n k size i)) (fun m => i + size + 1 - m) (fun m => i + 1 ≤ m ∧ m ≤ max (i + 1) (i + size + 1)) (i + 1) (by omega) ?_ ?_
                · rw [orC_zero, Bool.or_false]
                  unfold mnO
                  (simp (disch := first | omega | (simp only [vlen]; first | done | omega)) only [Fits_u, Fits_m, Fits_nil, List.length_append, vmn, ↓vAq, vBq, ↓reduceIte, Nat.reduceBEq, Nat.reduceEqDiff, Nat.reduceLT, Nat.reduceLeDiff, Nat.reduceAdd, Nat.reduceMul, Nat.reduceSub, reduceCtorEq, Int.reduceToNat] <;> (repeat' first | rfl | apply And.intro))
                  all_goals trace_state
                · rintro m ⟨hm1, hm2⟩
                  unfold mnO
                  by_cases hmj : m ≤ i + size
                  · have g1 := Nat.mul_le_mul_right n (show m + 1 ≤ n by omega)
                    rw [Nat.succ_mul] at g1
                    have hS : (((size : Int) == 0) || orC l w (l.getD k default).a.toNat k i (i + 1) (i + size) (m + 1)) = ((((size : Int) == 0) || orC l w (l.getD k default).a.toNat k i (i + 1) (i + size) m) || (mb l w (l.getD k default).a.toNat i m && mb l w k m (i + size))) := by rw [orC_succ hm1, Bool.or_assoc]
                    repeat' first | ((first | refine Br.dec ?_ ?_ | refine Br.eqi ?_ ?_) <;> intro h <;> try (exfalso; omega)) | (simp (disch := first | omega | (simp only [vlen]; first | done | omega)) only [vmn, ↓vAq, vBq, ↓reduceIte, Nat.reduceBEq, Nat.reduceEqDiff, Nat.reduceLT, Nat.reduceLeDiff, Nat.reduceAdd, Nat.reduceMul, Nat.reduceSub, reduceCtorEq, Int.reduceToNat]) | (refine Br.mk ?_ ?_ <;> intro h) | (refine BrN.mk (fun h => ?_) ?_) | (refine AltVC.mk ?_ ?_)
                    all_goals
                      refine loopK.mk (m + 1) (by simp (disch := first | omega | (simp only [vlen]; first | done | omega)) only [↓vAq, vBq, ↓reduceIte, Nat.reduceBEq, Nat.reduceEqDiff, Nat.reduceLT, Nat.reduceLeDiff, Nat.reduceAdd, Nat.reduceMul, Nat.reduceSub, reduceCtorEq, Int.reduceToNat]) (by omega) (by omega) ?_
                      rw [hS]
                      (simp (disch := first | omega | (simp only [vlen]; first | done | omega)) only [Fits_u, Fits_m, Fits_nil, List.length_append, vmn, ↓vAq, vBq, ↓reduceIte, Nat.reduceBEq, Nat.reduceEqDiff, Nat.reduceLT, Nat.reduceLeDiff, Nat.reduceAdd, Nat.reduceMul, Nat.reduceSub, reduceCtorEq, Int.reduceToNat] <;> (repeat' first | rfl | apply And.intro))
                      all_goals (refine vbEq ?_; simp only [Bool.true_or, Bool.false_or, Bool.true_and, Bool.false_and, Bool.or_true, Bool.or_false, Bool.and_true, Bool.and_false, Bool.or_self, Bool.and_self, *])
                  · rw [show m = i + size + 1 by omega, ← hm6 (by assumption)]
                    repeat' first | ((first | refine Br.dec ?_ ?_ | refine Br.eqi ?_ ?_) <;> intro h <;> try (exfalso; omega)) | (simp (disch := first | omega | (simp only [vlen]; first | done | omega)) only [vmn, ↓vAq, vBq, ↓reduceIte, Nat.reduceBEq, Nat.reduceEqDiff, Nat.reduceLT, Nat.reduceLeDiff, Nat.reduceAdd, Nat.reduceMul, Nat.reduceSub, reduceCtorEq, Int.reduceToNat]) | (refine Br.mk ?_ ?_ <;> intro h) | (refine BrN.mk (fun h => ?_) ?_) | (refine AltVC.mk ?_ ?_)
                    refine loopK.mk (i + 1) (by simp (disch := first | omega | (simp only [vlen]; first | done | omega)) only [↓vAq, vBq, ↓reduceIte, Nat.reduceBEq, Nat.reduceEqDiff, Nat.reduceLT, Nat.reduceLeDiff, Nat.reduceAdd, Nat.reduceMul, Nat.reduceSub, reduceCtorEq, Int.reduceToNat]) (by omega) (by omega) ?_
                    (simp (disch := first | omega | (simp only [vlen]; first | done | omega)) only [Fits_u, Fits_m, Fits_nil, List.length_append, vmn, ↓vAq, vBq, ↓reduceIte, Nat.reduceBEq, Nat.reduceEqDiff, Nat.reduceLT, Nat.reduceLeDiff, Nat.reduceAdd, Nat.reduceMul, Nat.reduceSub, reduceCtorEq, Int.reduceToNat] <;> (repeat' first | rfl | apply And.intro))
                    exact obBt (fin _ rfl)
              · refine loopK.mk (i + 1) (by simp (disch := first | omega | (simp only [vlen]; first | done | omega)) only [↓vAq, vBq, ↓reduceIte, Nat.reduceBEq, Nat.reduceEqDiff, Nat.reduceLT, Nat.reduceLeDiff, Nat.reduceAdd, Nat.reduceMul, Nat.reduceSub, reduceCtorEq, Int.reduceToNat]) (by omega) (by omega) ?_
                (simp (disch := first | omega | (simp only [vlen]; first | done | omega)) only [Fits_u, Fits_m, Fits_nil, List.length_append, vmn, ↓vAq, vBq, ↓reduceIte, Nat.reduceBEq, Nat.reduceEqDiff, Nat.reduceLT, Nat.reduceLeDiff, Nat.reduceAdd, Nat.reduceMul, Nat.reduceSub, reduceCtorEq, Int.reduceToNat] <;> (repeat' first | rfl | apply And.intro))
                exact obBt (fin _ (mb_1 hkl (by omega)))
            · have b0 := @bt_len (n * n) (Tb l w n k size i)
              repeat' first | ((first | refine Br.dec ?_ ?_ | refine Br.eqi ?_ ?_) <;> intro h <;> try (exfalso; omega)) | (simp (disch := first | omega | (simp only [vlen]; first | done | omega)) only [vmn, ↓vAq, vBq, ↓reduceIte, Nat.reduceBEq, Nat.reduceEqDiff, Nat.reduceLT, Nat.reduceLeDiff, Nat.reduceAdd, Nat.reduceMul, Nat.reduceSub, reduceCtorEq, Int.reduceToNat]) | (refine Br.mk ?_ ?_ <;> intro h) | (refine BrN.mk (fun h => ?_) ?_) | (refine AltVC.mk ?_ ?_)
              refine loopK.mk (size + 1) (by simp (disch := first | omega | (simp only [vlen]; first | done | omega)) only [↓vAq, vBq, ↓reduceIte, Nat.reduceBEq, Nat.reduceEqDiff, Nat.reduceLT, Nat.reduceLeDiff, Nat.reduceAdd, Nat.reduceMul, Nat.reduceSub, reduceCtorEq, Int.reduceToNat]) (by omega) (by omega) ?_
              (simp (disch := first | omega | (simp only [vlen]; first | done | omega)) only [Fits_u, Fits_m, Fits_nil, List.length_append, vmn, ↓vAq, vBq, ↓reduceIte, Nat.reduceBEq, Nat.reduceEqDiff, Nat.reduceLT, Nat.reduceLeDiff, Nat.reduceAdd, Nat.reduceMul, Nat.reduceSub, reduceCtorEq, Int.reduceToNat] <;> (repeat' first | rfl | apply And.intro))
              exact obBt fun p hp => tb_next (by omega) (by omega) p hp
        · have e1 : bt (n * n) (Tb l w n k size 0) = bt (n * n) (Mp l w n k) := bt_ext fun p hp => tb_end (by omega) (by omega) p hp
          unfold mnO
          rw [e1]
          repeat' first | ((first | refine Br.dec ?_ ?_ | refine Br.eqi ?_ ?_) <;> intro h <;> try (exfalso; omega)) | (simp (disch := first | omega | (simp only [vlen]; first | done | omega)) only [vmn, ↓vAq, vBq, ↓reduceIte, Nat.reduceBEq, Nat.reduceEqDiff, Nat.reduceLT, Nat.reduceLeDiff, Nat.reduceAdd, Nat.reduceMul, Nat.reduceSub, reduceCtorEq, Int.reduceToNat]) | (refine Br.mk ?_ ?_ <;> intro h) | (refine BrN.mk (fun h => ?_) ?_) | (refine AltVC.mk ?_ ?_)
          refine loopK.frz 2 ?_
          repeat' first | ((first | refine Br.dec ?_ ?_ | refine Br.eqi ?_ ?_) <;> intro h <;> try (exfalso; omega)) | (simp (disch := first | omega | (simp only [vlen]; first | done | omega)) only [vmn, ↓vAq, vBq, ↓reduceIte, Nat.reduceBEq, Nat.reduceEqDiff, Nat.reduceLT, Nat.reduceLeDiff, Nat.reduceAdd, Nat.reduceMul, Nat.reduceSub, reduceCtorEq, Int.reduceToNat]) | (refine Br.mk ?_ ?_ <;> intro h) | (refine BrN.mk (fun h => ?_) ?_) | (refine AltVC.mk ?_ ?_)
          refine loopK.flt 0 ?_
          repeat' first | ((first | refine Br.dec ?_ ?_ | refine Br.eqi ?_ ?_) <;> intro h <;> try (exfalso; omega)) | (simp (disch := first | omega | (simp only [vlen]; first | done | omega)) only [vmn, ↓vAq, vBq, ↓reduceIte, Nat.reduceBEq, Nat.reduceEqDiff, Nat.reduceLT, Nat.reduceLeDiff, Nat.reduceAdd, Nat.reduceMul, Nat.reduceSub, reduceCtorEq, Int.reduceToNat]) | (refine Br.mk ?_ ?_ <;> intro h) | (refine BrN.mk (fun h => ?_) ?_) | (refine AltVC.mk ?_ ?_)
          refine Chk.mk (tabD_all fun j hj => by (repeat' split) <;> simp [mrow_clo, clo'_sl, clo'_nl]) ?_
          refine loopK.mk (k + 1) (by simp (disch := first | omega | (simp only [vlen]; first | done | omega)) only [↓vAq, vBq, ↓reduceIte, Nat.reduceBEq, Nat.reduceEqDiff, Nat.reduceLT, Nat.reduceLeDiff, Nat.reduceAdd, Nat.reduceMul, Nat.reduceSub, reduceCtorEq, Int.reduceToNat]) (by omega) (by omega) ?_
          (simp (disch := first | omega | (simp only [vlen]; first | done | omega)) only [Fits_u, Fits_m, Fits_nil, List.length_append, vmn, ↓vAq, vBq, ↓reduceIte, Nat.reduceBEq, Nat.reduceEqDiff, Nat.reduceLT, Nat.reduceLeDiff, Nat.reduceAdd, Nat.reduceMul, Nat.reduceSub, reduceCtorEq, Int.reduceToNat] <;> (repeat' first | rfl | apply And.intro))
          exact obTabD fun j hj => by
            by_cases e : j = k
            · subst e; rw [if_pos rfl, if_pos (by omega)]; rfl
            · rw [if_neg e]; (repeat' split) <;> first | rfl | omega
    · have b0 := @bt_len (n * n) (Mp l w n (l.length - 1))
      have h1 := Nat.le_mul_of_pos_left n (show 0 < n by omega)
      repeat' first | ((first | refine Br.dec ?_ ?_ | refine Br.eqi ?_ ?_) <;> intro h <;> try (exfalso; omega)) | (simp (disch := first | omega | (simp only [vlen]; first | done | omega)) only [vmn, ↓vAq, vBq, ↓reduceIte, Nat.reduceBEq, Nat.reduceEqDiff, Nat.reduceLT, Nat.reduceLeDiff, Nat.reduceAdd, Nat.reduceMul, Nat.reduceSub, reduceCtorEq, Int.reduceToNat]) | (refine Br.mk ?_ ?_ <;> intro h) | (refine BrN.mk (fun h => ?_) ?_) | (refine AltVC.mk ?_ ?_)
      refine fin_mk (vbEq ?_)
      have h2 := @Mp_at l w n (l.length - 1) 0 (n - 1) (by omega)
      rw [Nat.zero_mul, Nat.zero_add] at h2
      show Mp l w n (l.length - 1) (n - 1) = _
      rw [h2, show n - 1 = w.length by omega]
end Go.Proofs.Ytdncgpgfnclifaa

namespace Go.Dm
set_option linter.unusedSimpArgs false
set_option linter.unusedVariables false
set_option linter.unnecessarySimpa false
inductive Pt (nx : Nat → Int → Nat) (K : Int) (k : Nat) : Nat → Nat → Lg
  | one {i : Nat} {s : Int} (hs : 0 ≤ s ∧ s < K) : Pt nx K k i (nx i s) [s]
  | cons {i j : Nat} {s : Int} {u : List Int} (hs : 0 ≤ s ∧ s < K) (hk : nx i s < k) (h : Pt nx K k (nx i s) j u) : Pt nx K k i j (s :: u)
section
variable {nx : Nat → Int → Nat} {K : Int} {k i j m : Nat} {u v : List Int}
theorem Pt.mono (h : Pt nx K k i j u) {k' : Nat} (hk : k ≤ k') : Pt nx K k' i j u := by
  induction h with
  | one hs => exact .one hs
  | cons hs hk2 _ ih => exact .cons hs (by omega) ih
theorem Pt.app (h : Pt nx K k i m u) (hm : m < k) (h2 : Pt nx K k m j v) : Pt nx K k i j (u ++ v) := by
  induction h with
  | one hs => exact .cons hs hm h2
  | cons hs hk2 _ ih => exact .cons hs hk2 (ih hm h2)
theorem pt_star (h : Star (Pt nx K k k k) u) (h2 : Pt nx K (k + 1) k j v) : Pt nx K (k + 1) k j (u ++ v) := by
  induction h with
  | nil => exact h2
  | app h t ih => rw [List.append_assoc]; exact (h.mono (Nat.le_succ _)).app (Nat.lt_succ_self _) ih
theorem pt_succ : Pt nx K (k + 1) i j u ↔ Pt nx K k i j u ∨ catL (Pt nx K k i k) (catL (Star (Pt nx K k k k)) (Pt nx K k k j)) u := by
  constructor
  · intro h
    induction h with
    | one hs => exact .inl (.one hs)
    | @cons i j s u hs hk h ih =>
      by_cases e : nx i s < k
      · rcases ih with h1 | ⟨a, b, h1, h2, rfl⟩
        · exact .inl (.cons hs e h1)
        · exact .inr ⟨s :: a, b, .cons hs e h1, h2, rfl⟩
      · have e2 : nx i s = k := by omega
        right
        refine ⟨[s], u, ?_, ?_, rfl⟩
        · have := Pt.one (nx := nx) (K := K) (k := k) (i := i) hs
          rwa [e2] at this
        · rw [e2] at ih
          rcases ih with h1 | ⟨a, b, h1, ⟨c, d, h2, h3, rfl⟩, rfl⟩
          · exact ⟨[], u, .nil, h1, rfl⟩
          · exact ⟨a ++ c, d, .app h1 h2, h3, by rw [List.append_assoc]⟩
  · rintro (h | ⟨a, b, h1, ⟨c, d, h2, h3, rfl⟩, rfl⟩)
    · exact h.mono (Nat.le_succ _)
    · exact (h1.mono (Nat.le_succ _)).app (Nat.lt_succ_self _) (pt_star h2 (h3.mono (Nat.le_succ _)))
theorem pt_zero : Pt nx K 0 i j u ↔ ∃ s, (0 ≤ s ∧ s < K) ∧ u = [s] ∧ nx i s = j := by
  constructor
  · intro h
    cases h with
    | one hs => exact ⟨_, hs, rfl, rfl⟩
    | cons hs hk _ => exact absurd hk (Nat.not_lt_zero _)
  · rintro ⟨s, hs, rfl, rfl⟩
    exact .one hs
def ldN (nx : Nat → Int → Nat) (i : Nat) (u : List Int) : Nat := u.foldl nx i
theorem pt_all {n : Nat} (hn : ∀ i s, i < n → 0 ≤ s → s < K → nx i s < n) : ∀ {u : List Int} {i : Nat}, i < n → (Pt nx K n i j u ↔ u ≠ [] ∧ (∀ s, s ∈ u → 0 ≤ s ∧ s < K) ∧ ldN nx i u = j)
  | [], i, hi => ⟨fun h => (by cases h), fun h => absurd rfl h.1⟩
  | s :: u, i, hi => by
    constructor
    · intro h
      cases h with
      | one hs => exact ⟨by simp, fun x hx => by rw [List.mem_singleton.1 hx]; exact hs, rfl⟩
      | cons hs hk h =>
        have := (pt_all hn (u := u) (hn i s hi hs.1 hs.2)).1 h
        refine ⟨by simp, fun x hx => ?_, this.2.2⟩
        rcases List.mem_cons.1 hx with rfl | hx
        · exact hs
        · exact this.2.1 x hx
    · rintro ⟨_, h1, h2⟩
      have hs := h1 s (by simp)
      by_cases e : u = []
      · subst e
        have e2 : nx i s = j := h2
        rw [← e2]; exact .one hs
      · exact .cons hs (hn i s hi hs.1 hs.2) ((pt_all hn (u := u) (hn i s hi hs.1 hs.2)).2 ⟨e, fun x hx => h1 x (List.mem_cons_of_mem _ hx), h2⟩)
end
theorem or_noR {A : Lg} : orL A noL = A := by funext u; exact propext ⟨fun h => h.elim id False.elim, .inl⟩
theorem or_noL {A : Lg} : orL noL A = A := by funext u; exact propext ⟨fun h => h.elim False.elim id, .inr⟩
theorem or_self {A : Lg} : orL A A = A := by funext u; exact propext ⟨fun h => h.elim id id, .inl⟩
theorem cat_noL {A : Lg} : catL noL A = noL := by funext u; exact propext ⟨fun ⟨_, _, h, _⟩ => h, False.elim⟩
theorem cat_noR {A : Lg} : catL A noL = noL := by funext u; exact propext ⟨fun ⟨_, _, _, h, _⟩ => h, False.elim⟩
theorem cat_emR {A : Lg} : catL A emL = A := by
  funext u
  refine propext ⟨fun ⟨a, b, h, h2, e⟩ => ?_, fun h => ⟨u, [], h, rfl, by simp⟩⟩
  have h2 : b = [] := h2
  subst h2; rw [e, List.append_nil]; exact h
theorem cat_emL {A : Lg} : catL emL A = A := by
  funext u
  refine propext ⟨fun ⟨a, b, h, h2, e⟩ => ?_, fun h => ⟨[], u, rfl, h, rfl⟩⟩
  have h : a = [] := h
  subst h; rw [e, List.nil_append]; exact h2
theorem star_no : Star noL = emL := by
  funext u
  refine propext ⟨fun h => ?_, fun h => by rw [show u = [] from h]; exact .nil⟩
  cases h with
  | nil => rfl
  | app h t => exact h.elim
theorem star_em : Star emL = emL := by
  funext u
  refine propext ⟨fun h => ?_, fun h => by rw [show u = [] from h]; exact .nil⟩
  induction h with
  | nil => rfl
  | @app a b h t ih =>
    have h : a = [] := h
    have ih : b = [] := ih
    show a ++ b = []
    rw [h, ih]; rfl
theorem star_star {A : Lg} : Star (Star A) = Star A := by
  funext u
  refine propext ⟨fun h => ?_, star_one⟩
  induction h with
  | nil => exact .nil
  | app h t ih => exact star_app h ih
end Go.Dm

namespace Go.Dm
set_option linter.unusedSimpArgs false
set_option linter.defProp false
theorem kBldS_ii {cells : List D} {off : Nat} {k k' : IntKind} {a b : Int} {go : List D → Prop} : kBldS off 2 cells go [.v (.int k a), .v (.int k' b)] = ChkD (off + 2 ≤ cells.length) (splice cells off [.v (.int k a), .v (.int k' b)]) go := by
  rw [kBldS_n]; unfold ChkD; simp [D.one, Value.one]
theorem kBldS_is {cells : List D} {off : Nat} {k : IntKind} {a : Int} {sz : Nat} {es : List (List D)} {go : List D → Prop} : kBldS off 2 cells go [.v (.int k a), .sl sz es] = ChkD (off + 2 ≤ cells.length) (splice cells off [.v (.int k a), .sl sz es]) go := by
  rw [kBldS_n]; unfold ChkD; simp [D.one, Value.one]
theorem kBldS_iiis {cells : List D} {off : Nat} {k k' k'' : IntKind} {a b c : Int} {sz : Nat} {es : List (List D)} {go : List D → Prop} : kBldS off 4 cells go [.v (.int k a), .v (.int k' b), .v (.int k'' c), .sl sz es] = ChkD (off + 4 ≤ cells.length) (splice cells off [.v (.int k a), .v (.int k' b), .v (.int k'' c), .sl sz es]) go := by
  rw [kBldS_n]; unfold ChkD; simp [D.one, Value.one]
section
variable {P : Program} {s : S}
theorem fold_kill {σ τ i o : Nat} {fl : Bool} {K : S → Prop} (h : kFold σ τ i o fl K s) : ∃ s', Gho s (D.kill σ) s' ∧ K s' := by
  unfold kFold kM at h
  split at h
  · next ob hM =>
    unfold kFoldA kM at h
    split at h
    · next ob' hM' =>
      obtain ⟨⟨h1, h1', h2, h3, h4, h6, h7⟩, hk⟩ := h
      unfold kFoldC at hk
      split at hk
      · next υ sz off n hc =>
        obtain ⟨rfl, rfl, rfl, k4, k5, h5, k6⟩ := hk
        exact ⟨_, .fold s υ τ i o n fl ob ob' ⟨h1, h1'⟩ hM hM' h2 h3 h4 h5 h6 h7 hc k4 k5, k6⟩
      · next υ hc =>
        obtain ⟨rfl, k1, k2, k5, k6⟩ := hk
        exact ⟨_, .foldm s υ τ i o fl ob ob' ⟨h1, h1'⟩ hM hM' h2 h3 h4 k1 k2 h6 h7 hc k5, k6⟩
      · exact hk.elim
    · exact h.elim
  · exact h.elim
def callFd (P : Program) (f : FuncId) (d : Option Nat) (K : S → Prop) (σ : Nat) (raws : List D) (s' : S) : Prop := CallVC P f d K (raws.map (D.kill σ)) s'
theorem callFd_eq {f : FuncId} {d : Option Nat} {K : S → Prop} {σ : Nat} {raws : List D} : callFd P f d K σ raws s = kD (raws.map (D.kill σ)) (kCallw P f d K s) := (rfl)
theorem nlo_id {τ i o z : Nat} {K : S → Prop} (h : kNlo τ i o z K s) : ∃ s', Gho s (fun d => d) s' ∧ K s' := by
  unfold kNlo kM at h
  split at h
  · next ob hM =>
    obtain ⟨⟨h1, h2, h3, h4⟩, hk⟩ := h
    exact ⟨_, .nlo s τ i o z ob h1 hM h2 h3 h4, hk⟩
  · exact h.elim
def callNd (P : Program) (f : FuncId) (d : Option Nat) (K : S → Prop) (raws : List D) (s' : S) : Prop := CallVC P f d K (raws.map fun d => d) s'
theorem callNd_eq {f : FuncId} {d : Option Nat} {K : S → Prop} {raws : List D} : callNd P f d K raws s = kD raws (kCallw P f d K s) := by
  unfold callNd; rw [List.map_id']; rfl
theorem CallVC.nlo {f : FuncId} {d : Option Nat} {K : S → Prop} {raws views : List D} {own : Bool} (τ i o z : Nat) (h : kNlo τ i o z (callNd P f d K raws) s) : CallV P f views own raws s d K := fun _ _ => by
  obtain ⟨s', hg, hk⟩ := nlo_id h
  exact .ghost raws s _ _ hg hk
theorem CallVC.fold {f : FuncId} {d : Option Nat} {K : S → Prop} {raws views : List D} {own : Bool} (σ τ i o : Nat) (fl : Bool) (h : kFold σ τ i o fl (callFd P f d K σ raws) s) : CallV P f views own raws s d K := fun _ _ => by
  obtain ⟨s', hg, hk⟩ := fold_kill h
  exact .ghost raws s _ _ hg hk
def finHx (n0 : Nat) (R : D → List (Option Ob) → Prop) (d : D) (s' : S) : Prop := FinH n0 R s' d
theorem finHx_eq {n0 : Nat} {R : D → List (Option Ob) → Prop} {d : D} : finHx n0 R d s = FinH n0 R s d := (rfl)
theorem FinH.fold {n0 : Nat} {R : D → List (Option Ob) → Prop} {d : D} (σ τ i o : Nat) (fl : Bool) (hd : d.kill σ = d) (h : kFold σ τ i o fl (finHx n0 R d) s) : FinH n0 R s d := by
  obtain ⟨s', hg, s'', g, l, h1, h2, h3, h4, h5⟩ := fold_kill h
  refine ⟨s'', _, l, .step _ _ _ _ _ hg h1, h2, h3, h4, ?_⟩
  show R ((g (d.kill σ)).trim l.length) l
  rw [hd]; exact h5
end
def vmr := And.intro @callFd_eq <| And.intro @callNd_eq <| And.intro @finHx_eq <| And.intro @kBldS_ii <| And.intro @kBldS_is @kBldS_iiis
end Go.Dm

namespace Go.Dm
set_option linter.unusedSimpArgs false
set_option linter.defProp false
def ltAll : List Nat → Nat → Prop
  | [], _ => True
  | x :: r, N => x < N ∧ ltAll r N
theorem ltAll_nil {N : Nat} : ltAll [] N = True := (rfl)
theorem ltAll_cons {x N : Nat} {r : List Nat} : ltAll (x :: r) N = (x < N ∧ ltAll r N) := (rfl)
theorem ltAll_spec {N : Nat} : ∀ {l : List Nat}, ltAll l N → ∀ x, x ∈ l → x < N
  | y :: r, h, x, hx => by
    rcases List.mem_cons.1 hx with rfl | hx
    · exact h.1
    · exact ltAll_spec h.2 x hx
def lentM (s : S) (ι : List Nat) : List Nat → List Ob → Prop
  | [], _ => True
  | _, [] => True
  | x :: r, ob :: q => s.M x = some (ob.ren (iotaO ι s.N)) ∧ lentM s ι r q
theorem lentM_nil {s : S} {ι : List Nat} {q : List Ob} : lentM s ι [] q = True := (rfl)
theorem lentM_cons {s : S} {ι : List Nat} {x : Nat} {r : List Nat} {ob : Ob} {q : List Ob} : lentM s ι (x :: r) (ob :: q) = (s.M x = some (ob.ren (iotaO ι s.N)) ∧ lentM s ι r q) := (rfl)
theorem lentM_spec {s : S} {ι : List Nat} : ∀ {l : List Nat} {q : List Ob}, l.length = q.length → lentM s ι l q → ∀ k ob, q[k]? = some ob → s.M (l.getD k 0) = some (ob.ren (iotaO ι s.N))
  | [], [], _, _, k, ob, h => by simp at h
  | [], _ :: _, hl, _, _, _, _ => by simp at hl
  | _ :: _, [], hl, _, _, _, _ => by simp at hl
  | x :: r, o :: q, hl, hm, k, ob, h => by
    cases k with
    | zero => simp at h; subst h; exact hm.1
    | succ k => simpa using lentM_spec (by simpa using hl) hm.2 k ob (by simpa using h)
theorem CallVC.lendE {P : Program} {f : FuncId} {views raws : List D} {own : Bool} {s : S} {d : Option Nat} {K : S → Prop} (ι : List Nat) (ds : List D) (obs : List Ob) {R : D → List (Option Ob) → Prop} (h : SpecH P f ds obs R) (hn : ι.Nodup) (hl : ι.length = obs.length)
    (hq : ltAll ι s.N ∧ raws = ds.map (D.ren (iotaO ι s.N)) ∧ lentM s ι ι obs) (hk : ∀ r l, R r l → K ((s.after ι l).put d (r.ren (iotaO ι s.N)))) : CallV P f views own raws s d K :=
  CallVC.lend ι ds obs h hn (ltAll_spec hq.1) hl hq.2.1 (lentM_spec hl hq.2.2) hk
def vle0 := And.intro @ltAll_nil <| And.intro @ltAll_cons <| And.intro @lentM_nil @lentM_cons
end Go.Dm

namespace Go.Proofs.Ytdncgpgfnclifaa
open Go.Dm
set_option linter.unusedSimpArgs false
set_option linter.unnecessarySimpa false
set_option linter.unusedVariables false
set_option linter.defProp false
abbrev poK : Kd := .map [.i64, .i64, .i64] true false
def poE (p : Dm.Node × Nat) : List D := [.v (.int .i64 p.1.kind), .v (.int .i64 p.1.a), .v (.int .i64 p.1.b), iv .i64 p.2]
def poM (l : List Dm.Node) : List (List D) := (List.range l.length).map fun i => poE (l.getD i default, i)
theorem poM_len {l : List Dm.Node} : (poM l).length = l.length := by simp [poM]
theorem poM_get {l : List Dm.Node} {i : Nat} {d : List D} (h : i < l.length) : (poM l).getD i d = poE (l.getD i default, i) := by simp [poM, List.getD_eq_getElem?_getD, h]
theorem poM_snoc {l : List Dm.Node} {x : Dm.Node} : poM l ++ [[.v (.int .i64 x.kind), .v (.int .i64 x.a), .v (.int .i64 x.b), .v (.int .i64 (l.length : Int))]] = poM (l ++ [x]) := by
  have h1 : (l ++ [x]).getD l.length default = x := by simp [List.getD_eq_getElem?_getD]
  unfold poM
  rw [List.length_append, List.length_singleton, List.range_succ, List.map_append, List.map_singleton, h1]
  congr 1
  refine List.map_congr_left fun i hi => ?_
  have := List.mem_range.1 hi
  have : (l ++ [x]).getD i default = l.getD i default := by simp only [List.getD_eq_getElem?_getD]; rw [List.getElem?_append_left this]
  rw [this]
def poO (l : List Dm.Node) : Ob := ⟨2, [[.own false 3 (tbl nodD l), .omp poK 4 (poM l)]], true, true, .fix⟩
theorem po_fin {l : List Dm.Node} {s : Go.Dm.S} {d : D} {R : D → List (Option Ob) → Prop} (h1 : 1 ≤ s.N) (h2 : fitL s 1 0 [some (poO l)]) (hd : R (d.trim 1) [some (poO l)]) : FinH 1 R s d :=
  finH_mk [some (poO l)] (by simp) (by simpa using h1) h2 hd
theorem nodD_eq {x : Dm.Node} : nodD x = [iv .i64 x.kind, iv .i64 x.a, iv .i64 x.b] := (rfl)
theorem nod_app {l : List Dm.Node} {x : Dm.Node} : tbl nodD l ++ [[D.v (.int .i64 x.kind), D.v (.int .i64 x.a), D.v (.int .i64 x.b)]] = tbl nodD (l ++ [x]) := by rw [tbl_app]; rfl
def vkp := And.intro @nodD_eq <| And.intro @nod_app <| And.intro @poM_len <| And.intro @poM_snoc @Int.add_sub_cancel
theorem po_in {l : List Dm.Node} {x : Dm.Node} {r : Nat} (hr : r < (poM l).length) (he : Agr (((poM l).getD r []).take 3) [iv .i64 x.kind, iv .i64 x.a, iv .i64 x.b]) : r < l.length ∧ l.getD r default = x ∧ (poM l).getD r [] = [iv .i64 x.kind, iv .i64 x.a, iv .i64 x.b, iv .i64 r] := by
  rw [poM_len] at hr
  rw [poM_get hr] at he ⊢
  obtain ⟨y, hy⟩ : ∃ y, l.getD r default = y := ⟨_, rfl⟩
  rw [hy] at he ⊢
  obtain ⟨k, a, b⟩ := y
  obtain ⟨k', a', b'⟩ := x
  simp only [poE, iv, List.take_succ_cons, List.take_zero, Agr_v, D.v.injEq, Value.int.injEq, true_and] at he
  obtain ⟨rfl, rfl, rfl, _⟩ := he
  exact ⟨hr, rfl, rfl⟩
def SmN (x : Dm.Node) : Prop := (0 ≤ x.kind ∧ x.kind ≤ 6) ∧ (0 ≤ x.a ∧ x.a ≤ 1000000) ∧ (0 ≤ x.b ∧ x.b ≤ 1000000)
def PoA (l : List Dm.Node) (x : Dm.Node) (d : D) (o : List (Option Ob)) : Prop := ∃ l' r, d = iv .i64 (r : Nat) ∧ o = [some (poO l')] ∧ ((l' = l ∧ r < l.length ∧ l.getD r default = x) ∨ (l' = l ++ [x] ∧ r = l.length))
set_option maxRecDepth 10000 in
set_option maxHeartbeats 4000000 in
theorem poolAdd_spec (l : List Dm.Node) (hl : l.length ≤ 1000000) (x : Dm.Node) (hx : SmN x) : Dm.SpecH Try.prog 11 [.ptr 0 2 0 0, .ag (nodD x)] [poO l] (PoA l x) := by
  refine specH_of_vc mixed Try.func11 c11 (by rw [show Try.f11.ntmps = _ from Try.ntmps11]; simp) ?_
  unfold m11 r11
  obtain ⟨x1, x2, x3⟩ := hx
  unfold poO
  repeat' first | ((first | refine Br.dec ?_ ?_ | refine Br.eqi ?_ ?_) <;> intro h <;> try (exfalso; omega)) | (simp (disch := first | omega | (simp only [vlen]; first | done | omega)) only [vkp, ↓vAq, vBq, ↓reduceIte, Nat.reduceBEq, Nat.reduceEqDiff, Nat.reduceLT, Nat.reduceLeDiff, Nat.reduceAdd, Nat.reduceMul, Nat.reduceSub, reduceCtorEq, Int.reduceToNat]) | (refine Br.mk ?_ ?_ <;> intro h) | (refine BrN.mk (fun h => ?_) ?_) | (refine AltVC.mk ?_ ?_)
  refine BrK.mk (fun r hr he => ?_) (fun hno => ?_)
  · obtain ⟨r1, r2, r3⟩ := po_in hr he
    repeat' first | ((first | refine Br.dec ?_ ?_ | refine Br.eqi ?_ ?_) <;> intro h <;> try (exfalso; omega)) | (simp (disch := first | omega | (simp only [vlen]; first | done | omega)) only [r3, vkp, ↓vAq, vBq, ↓reduceIte, Nat.reduceBEq, Nat.reduceEqDiff, Nat.reduceLT, Nat.reduceLeDiff, Nat.reduceAdd, Nat.reduceMul, Nat.reduceSub, reduceCtorEq, Int.reduceToNat]) | (refine Br.mk ?_ ?_ <;> intro h) | (refine BrN.mk (fun h => ?_) ?_) | (refine AltVC.mk ?_ ?_)
    refine FinH.fold 2 0 0 1 true (by simp [D.kill, D.lf, killL]) ?_
    repeat' first | ((first | refine Br.dec ?_ ?_ | refine Br.eqi ?_ ?_) <;> intro h <;> try (exfalso; omega)) | (simp (disch := first | omega | (simp only [vlen]; first | done | omega)) only [vkp, ↓vAq, vBq, ↓reduceIte, Nat.reduceBEq, Nat.reduceEqDiff, Nat.reduceLT, Nat.reduceLeDiff, Nat.reduceAdd, Nat.reduceMul, Nat.reduceSub, reduceCtorEq, Int.reduceToNat]) | (refine Br.mk ?_ ?_ <;> intro h) | (refine BrN.mk (fun h => ?_) ?_) | (refine AltVC.mk ?_ ?_)
    exact po_fin (l := l) (by simp (disch := first | omega | (simp only [vlen]; first | done | omega)) only [vkp, ↓vAq, vBq, ↓reduceIte, Nat.reduceBEq, Nat.reduceEqDiff, Nat.reduceLT, Nat.reduceLeDiff, Nat.reduceAdd, Nat.reduceMul, Nat.reduceSub, reduceCtorEq, Int.reduceToNat]) (by unfold poO; simp (disch := first | omega | (simp only [vlen]; first | done | omega)) only [vkp, ↓vAq, vBq, ↓reduceIte, Nat.reduceBEq, Nat.reduceEqDiff, Nat.reduceLT, Nat.reduceLeDiff, Nat.reduceAdd, Nat.reduceMul, Nat.reduceSub, reduceCtorEq, Int.reduceToNat]) ⟨l, r, by simp (disch := first | omega | (simp only [vlen]; first | done | omega)) only [vkp, ↓vAq, vBq, ↓reduceIte, Nat.reduceBEq, Nat.reduceEqDiff, Nat.reduceLT, Nat.reduceLeDiff, Nat.reduceAdd, Nat.reduceMul, Nat.reduceSub, reduceCtorEq, Int.reduceToNat], rfl, .inl ⟨rfl, r1, r2⟩⟩
  · repeat' first | ((first | refine Br.dec ?_ ?_ | refine Br.eqi ?_ ?_) <;> intro h <;> try (exfalso; omega)) | (simp (disch := first | omega | (simp only [vlen]; first | done | omega)) only [vkp, ↓vAq, vBq, ↓reduceIte, Nat.reduceBEq, Nat.reduceEqDiff, Nat.reduceLT, Nat.reduceLeDiff, Nat.reduceAdd, Nat.reduceMul, Nat.reduceSub, reduceCtorEq, Int.reduceToNat]) | (refine Br.mk ?_ ?_ <;> intro h) | (refine BrN.mk (fun h => ?_) ?_) | (refine AltVC.mk ?_ ?_)
    refine BrK.mk (fun r hr he => ?_) (fun _ => ?_)
    · obtain ⟨r1, r2, r3⟩ := po_in hr he
      exact absurd (by rw [r3]; rfl) (hno r hr)
    have hll : (l ++ [x]).length = l.length + 1 := by simp
    repeat' first | ((first | refine Br.dec ?_ ?_ | refine Br.eqi ?_ ?_) <;> intro h <;> try (exfalso; omega)) | (simp (disch := first | omega | (simp only [vlen]; first | done | omega)) only [vkp, ↓vAq, vBq, ↓reduceIte, Nat.reduceBEq, Nat.reduceEqDiff, Nat.reduceLT, Nat.reduceLeDiff, Nat.reduceAdd, Nat.reduceMul, Nat.reduceSub, reduceCtorEq, Int.reduceToNat]) | (refine Br.mk ?_ ?_ <;> intro h) | (refine BrN.mk (fun h => ?_) ?_) | (refine AltVC.mk ?_ ?_)
    refine FinH.fold 3 0 0 0 false (by simp [D.kill, D.lf, killL]) ?_
    repeat' first | ((first | refine Br.dec ?_ ?_ | refine Br.eqi ?_ ?_) <;> intro h <;> try (exfalso; omega)) | (simp (disch := first | omega | (simp only [vlen]; first | done | omega)) only [hll, vkp, ↓vAq, vBq, ↓reduceIte, Nat.reduceBEq, Nat.reduceEqDiff, Nat.reduceLT, Nat.reduceLeDiff, Nat.reduceAdd, Nat.reduceMul, Nat.reduceSub, reduceCtorEq, Int.reduceToNat]) | (refine Br.mk ?_ ?_ <;> intro h) | (refine BrN.mk (fun h => ?_) ?_) | (refine AltVC.mk ?_ ?_)
    refine FinH.fold 2 0 0 1 true (by simp [D.kill, D.lf, killL]) ?_
    repeat' first | ((first | refine Br.dec ?_ ?_ | refine Br.eqi ?_ ?_) <;> intro h <;> try (exfalso; omega)) | (simp (disch := first | omega | (simp only [vlen]; first | done | omega)) only [hll, vkp, ↓vAq, vBq, ↓reduceIte, Nat.reduceBEq, Nat.reduceEqDiff, Nat.reduceLT, Nat.reduceLeDiff, Nat.reduceAdd, Nat.reduceMul, Nat.reduceSub, reduceCtorEq, Int.reduceToNat]) | (refine Br.mk ?_ ?_ <;> intro h) | (refine BrN.mk (fun h => ?_) ?_) | (refine AltVC.mk ?_ ?_)
    exact po_fin (l := l ++ [x]) (by simp (disch := first | omega | (simp only [vlen]; first | done | omega)) only [vkp, ↓vAq, vBq, ↓reduceIte, Nat.reduceBEq, Nat.reduceEqDiff, Nat.reduceLT, Nat.reduceLeDiff, Nat.reduceAdd, Nat.reduceMul, Nat.reduceSub, reduceCtorEq, Int.reduceToNat]) (by unfold poO; simp (disch := first | omega | (simp only [vlen]; first | done | omega)) only [hll, vkp, ↓vAq, vBq, ↓reduceIte, Nat.reduceBEq, Nat.reduceEqDiff, Nat.reduceLT, Nat.reduceLeDiff, Nat.reduceAdd, Nat.reduceMul, Nat.reduceSub, reduceCtorEq, Int.reduceToNat]) ⟨l ++ [x], l.length, by simp (disch := first | omega | (simp only [vlen]; first | done | omega)) only [vkp, ↓vAq, vBq, ↓reduceIte, Nat.reduceBEq, Nat.reduceEqDiff, Nat.reduceLT, Nat.reduceLeDiff, Nat.reduceAdd, Nat.reduceMul, Nat.reduceSub, reduceCtorEq, Int.reduceToNat], rfl, .inr ⟨rfl, rfl⟩⟩
end Go.Proofs.Ytdncgpgfnclifaa
