/-
 Texts of this claim, one behind another.
-/
import Derived.Test.YtcbilnmpiladnaaMg15
import Derived.Test.YtcbilnmpiladnaaMg14
import Derived.Test.YtcbilnmpiladnaaMg11
import Derived.WalkKit
import Derived.Shelf.SlSortCmp.NoneTotal
namespace Go.Proofs.Ytcbilnmpiladnaa
open Go.Dm
set_option linter.unusedSimpArgs false
set_option linter.unnecessarySimpa false
set_option linter.unusedVariables false
set_option linter.defProp false
theorem setM_twice {s : Go.Dm.S} {τ : Nat} {a b : Ob} : (s.setM τ a).setM τ b = s.setM τ b := by
  unfold S.setM
  congr 1
  funext t
  by_cases e : t = τ <;> simp [e]
theorem nlo_all {P : Program} {asg : List Nat} {c : MC} {st : List Fr} {τ n z : Nat} : ∀ {k i : Nat} {s : Go.Dm.S}, i + k = n → τ < s.N → s.M τ = some ⟨1, List.replicate i [.own false z []] ++ List.replicate k [.nl], true, decide (0 < i), .arr⟩ →
    LoopVC P asg c st (s.setM τ ⟨1, List.replicate n [.own false z []], true, decide (0 < n), .arr⟩) → LoopVC P asg c st s
  | 0, i, s, hi, hτ, hM, h => by
    have e : s.setM τ ⟨1, List.replicate n [.own false z []], true, decide (0 < n), .arr⟩ = s := by
      have : i = n := by omega
      subst this
      rw [List.replicate_zero, List.append_nil] at hM
      obtain ⟨ρ, M, N⟩ := s
      unfold S.setM
      simp only at hM ⊢
      congr 1
      funext t
      by_cases e : t = τ
      · subst e; simp [hM]
      · simp [e]
    rw [e] at h; exact h
  | k + 1, i, s, hi, hτ, hM, h => by
    refine LoopVC.nlo τ i 0 z ?_
    have hg : (List.replicate i [D.own false z []] ++ List.replicate (k + 1) [D.nl]).getD i [] = [.nl] := by simp [List.getD_eq_getElem?_getD]
    have hs : (List.replicate i [D.own false z []] ++ List.replicate (k + 1) [D.nl]).set i [.own false z []] = List.replicate (i + 1) [D.own false z []] ++ List.replicate k [D.nl] := by
      rw [List.set_append_right _ _ (by simp), List.length_replicate, Nat.sub_self, List.replicate_succ, List.set_cons_zero, List.replicate_succ', List.append_assoc]; rfl
    unfold kNlo
    rw [hM]
    show kNloO τ i 0 z _ s _
    unfold kNloO
    refine ⟨⟨hτ, by simp, by simp, by rw [hg]; rfl⟩, ?_⟩
    rw [hg, show [D.nl].set 0 (.own false z []) = [.own false z []] from rfl, hs]
    refine nlo_all (n := n) (z := z) (k := k) (i := i + 1) (by omega) (by simpa [S.setM] using hτ) (by simp [S.setM]) ?_
    rw [setM_twice]; exact h
theorem LoopVC.nlos {P : Program} {asg : List Nat} {c : MC} {st : List Fr} {s : Go.Dm.S} (τ n : Nat) (hn : 0 < n) (hτ : τ < s.N) (hM : s.M τ = some ⟨1, List.replicate n [.nl], true, false, .arr⟩) (h : LoopVC P asg c st (s.setM τ ⟨1, tbl scR (List.replicate n []), true, true, .arr⟩)) : LoopVC P asg c st s :=
  nlo_all (k := n) (i := 0) (n := n) (z := 3) (by omega) hτ (by simpa using hM) (by rw [decide_eq_true hn]; simpa [tbl, scR] using h)
def tot (S : List (List It)) : Nat := (S.map List.length).sum
theorem tot_bound {c : Nat} : ∀ {S : List (List It)}, (∀ l, l ∈ S → l.length ≤ c) → tot S ≤ c * S.length
  | [], _ => Nat.le_refl _
  | x :: S, h => by
    have h1 := @tot_bound c S fun l hl => h l (by simp [hl])
    have h2 := h x (by simp)
    simp only [tot, List.map_cons, List.sum_cons, List.length_cons, Nat.mul_succ] at h1 ⊢
    omega
theorem tot_set : ∀ {S : List (List It)} {i : Nat} {x : It}, i < S.length → tot (S.set i (S.getD i default ++ [x])) = tot S + 1
  | y :: S, 0, x, _ => by simp [tot]; omega
  | y :: S, i + 1, x, h => by
    have := @tot_set S i x (by simpa using h)
    simp only [tot, List.set_cons_succ, List.map_cons, List.sum_cons, List.getD_cons_succ] at this ⊢
    omega
theorem Snd.ws {g : Grammar} {w : List Int} (hc : IC g w) {S : List (List It)} (h : Snd g w S) : WS g w S := ⟨h.len, fun i x hx => (h.ear i x hx).wi, fun i => by have := hc.small h i; omega⟩
theorem Snd.tot {g : Grammar} {w : List Int} (hc : IC g w) {S : List (List It)} (h : Snd g w S) : tot S ≤ 8450 := by
  have h1 := tot_bound (c := 650) (S := S) fun l hl => by
    obtain ⟨i, hi, e⟩ := List.mem_iff_getElem.1 hl
    have := hc.small h i
    rw [show S.getD i [] = l by simp [List.getD_eq_getElem?_getD, hi, e]] at this
    exact this
  have h2 := h.len
  have h3 := hc.w
  rw [h2] at h1
  have h4 : 650 * (w.length + 1) ≤ 650 * 13 := Nat.mul_le_mul_left _ (by omega)
  omega
structure QQ (g : Grammar) (w : List Int) (S0 S : List (List It)) (b : Bool) : Prop where
  s : Snd g w S
  e : b = false → S = S0
  t : b = true → tot S0 < tot S
theorem QQ.le {g : Grammar} {w : List Int} {S0 S : List (List It)} {b : Bool} (h : QQ g w S0 S b) : tot S0 ≤ tot S := by
  cases b with
  | false => rw [h.e rfl]; exact Nat.le_refl _
  | true => exact Nat.le_of_lt (h.t rfl)
def Fn (g : Grammar) (w : List Int) (S : List (List It)) (i r d f : Nat) : Prop := comB g w S i (r, d, f) = true → (r, d, f) ∈ S.getD i []
def F3 (g : Grammar) (w : List Int) (S : List (List It)) (i r d : Nat) : Prop := ∀ f, f ≤ i → Fn g w S i r d f
def F2 (g : Grammar) (w : List Int) (S : List (List It)) (i r : Nat) : Prop := ∀ d, d ≤ (rgt g r).length → F3 g w S i r d
def F1 (g : Grammar) (w : List Int) (S : List (List It)) (i : Nat) : Prop := ∀ r, r < g.rules.length → F2 g w S i r
theorem below_succ {p : Nat → Prop} {n : Nat} (h : ∀ j, j < n → p j) (hn : p n) : ∀ j, j < n + 1 → p j := fun j hj => by
  by_cases e : j = n
  · rw [e]; exact hn
  · exact h j (by omega)
abbrev Z3 := Nat × List (List It) × Bool
def oG (g : Grammar) : Ob := ⟨4, [[iv .i64 g.k, iv .i64 g.n, iv .i64 g.start, .sl 2 (tbl rulD g.rules)]], true, false, .fix⟩
def oS (S : List (List It)) : Ob := ⟨1, tbl scR S, true, true, .fix⟩
def oR (g : Grammar) (r : Nat) : Ob := ⟨2, [rulD (g.rules.getD r default)], true, false, .fix⟩
theorem vw_sc {S : List (List It)} : vwR (tbl scR S) = tbl scS S := by
  simp only [vwR, tbl, List.map_map]
  apply List.map_congr_left
  intro l _
  simp [scR, scS, vw_own]
theorem vw_is {S : List (List It)} {n : Nat} (h : n = S.length) : viewO (some ⟨1, tbl scR S, true, true, .fix⟩) 1 0 n = .sl 1 (tbl scS S) := by
  subst h
  unfold viewO
  simp only
  rw [if_pos ⟨trivial, rfl, trivial, by simp [tbl]⟩]
  have e : (⟨1, tbl scR S, true, true, .fix⟩ : Ob).vrows = vwR (tbl scR S) := by simp [Ob.vrows, vwR]
  rw [e, vw_sc, List.drop_zero, List.take_of_length_le (by simp [tbl])]
theorem st_trims {S : List (List It)} {i n m τ : Nat} (h : τ < m) : List.map (fun e => List.map (D.trim m) e) ((tbl scR S).set i [.ref τ 3 0 n]) = (tbl scR S).set i [.ref τ 3 0 n] := by
  have e : ((fun e => List.map (D.trim m) e) ∘ scR) = scR := by funext l; simp [scR, trim_oo]
  rw [List.map_set]
  simp only [tbl, List.map_map, e, List.map_cons, List.map_nil, trim_ref, h, if_true]
theorem it_at {l : List It} {b : Nat} (h : b < l.length) : (tbl itD l).getD b [] = itD (l.getD b default) := by simp [tbl, List.getD_eq_getElem?_getD, h]
theorem it_st {l : List It} {b : Nat} {x : It} : (tbl itD l).set b (itD x) = tbl itD (l.set b x) := by rw [← tbl_set]
theorem ac1 {b : Nat} : ((b : Int) + 1 - 1) = b := by omega
def oT (S : List (List It)) (k : Nat) (l : List It) : Ob := ⟨1, (tbl scR S).set k [.ref 3 3 0 l.length], false, true, .fix⟩
def oL (l : List It) : Ob := ⟨3, tbl itD l, true, false, .arr⟩
def isR (g : Grammar) (w : List Int) (d : D) : Prop := ∃ S, d = .sl 1 (tbl scS S) ∧ S.length = w.length + 1 ∧ ∀ i, Srt (S.getD i []) ∧ ∀ x, x ∈ S.getD i [] ↔ Ear g w i x
theorem sort_end {g : Grammar} {w : List Int} (hc : IC g w) (hg : GW g w) {S0 S : List (List It)} (hS : Snd g w S0) (hF : ∀ i, i < w.length + 1 → F1 g w S0 i) (hl : S.length = w.length + 1) (h : ∀ j, (S.getD j []).Perm (S0.getD j []) ∧ (j < w.length + 1 → Srt (S.getD j []))) : ∀ i, Srt (S.getD i []) ∧ ∀ x, x ∈ S.getD i [] ↔ Ear g w i x := fun i => by
  refine ⟨?_, fun x => (h i).1.mem_iff.trans ⟨fun hx => hS.ear i x hx, fun hx => ?_⟩⟩
  · by_cases e : i < w.length + 1
    · exact (h i).2 e
    · rw [show S.getD i [] = [] by simp only [List.getD_eq_getElem?_getD]; rw [List.getElem?_eq_none_iff.2 (by omega)]; rfl]; exact List.Pairwise.nil
  · refine com_cmp hc hg (fun j y hy hcb => ?_) hx
    obtain ⟨r, d, f⟩ := y
    exact hF j (by have := hy.2.2.2; omega) r hy.1 d hy.2.1 f hy.2.2.1 hcb
set_option maxHeartbeats 8000000 in
set_option maxRecDepth 10000 in
set_option maxHeartbeats 4000000 in
theorem isets_spec (g : Grammar) (w : List Int) (hc : IC g w) (hg : GW g w) : Dm.Spec Try.prog 29 [.ag (graD g), .sl 1 (i64s w)] (isR g w) := by
  refine spec_of_vc mixed Try.func29 c29 (by rw [show Try.f29.ntmps = _ from Try.ntmps29]; simp) ?_
  unfold m29 r29
  have hrl := hc.v.len
  have hwl := hc.w
  repeat' first | ((first | refine Br.dec ?_ ?_ | refine Br.eqi ?_ ?_) <;> intro h <;> try (exfalso; omega)) | (simp (disch := first | omega | (simp only [vlen]; first | done | omega)) only [vir, vit, ↓vAq, vBq, ↓reduceIte, Nat.reduceBEq, Nat.reduceEqDiff, Nat.reduceLT, Nat.reduceLeDiff, Nat.reduceAdd, Nat.reduceMul, Nat.reduceSub, reduceCtorEq, Int.reduceToNat]) | (refine Br.mk ?_ ?_ <;> intro h) | (refine BrN.mk (fun h => ?_) ?_) | (refine AltVC.mk ?_ ?_)
  refine LoopVC.nlos 2 (w.length + 1) (by omega) (by simp (disch := first | omega | (simp only [vlen]; first | done | omega)) only [vit, ↓vAq, vBq, ↓reduceIte, Nat.reduceBEq, Nat.reduceEqDiff, Nat.reduceLT, Nat.reduceLeDiff, Nat.reduceAdd, Nat.reduceMul, Nat.reduceSub, reduceCtorEq, Int.reduceToNat]) (by simp (disch := first | omega | (simp only [vlen]; first | done | omega)) only [vit, ↓vAq, vBq, ↓reduceIte, Nat.reduceBEq, Nat.reduceEqDiff, Nat.reduceLT, Nat.reduceLeDiff, Nat.reduceAdd, Nat.reduceMul, Nat.reduceSub, reduceCtorEq, Int.reduceToNat]) ?_
  refine LoopVC.stay 2 ?_
  repeat' first | ((first | refine Br.dec ?_ ?_ | refine Br.eqi ?_ ?_) <;> intro h <;> try (exfalso; omega)) | (simp (disch := first | omega | (simp only [vlen]; first | done | omega)) only [vit, ↓vAq, vBq, ↓reduceIte, Nat.reduceBEq, Nat.reduceEqDiff, Nat.reduceLT, Nat.reduceLeDiff, Nat.reduceAdd, Nat.reduceMul, Nat.reduceSub, reduceCtorEq, Int.reduceToNat]) | (refine Br.mk ?_ ?_ <;> intro h) | (refine BrN.mk (fun h => ?_) ?_) | (refine AltVC.mk ?_ ?_)
  refine LoopVC.mk (X := List (List It) × Bool) (fun z => [(6, .v (.bool z.2)), (5, .ref 2 1 0 (w.length + 1))]) (fun z => [(0, oG g), (2, oS z.1)]) (fun z => (8450 - tot z.1) * 2 + (if z.2 = true then 1 else 0))
    (fun z => Snd g w z.1 ∧ (z.2 = false → ∀ i, i < w.length + 1 → F1 g w z.1 i)) (List.replicate (w.length + 1) [], true) ⟨snd_0, fun h => by cases h⟩ ?_ ?_
  · unfold oG oS
    (simp (disch := first | omega | (simp only [vlen]; first | done | omega)) only [Fits_u, Fits_m, Fits_nil, List.length_append, vit, ↓vAq, vBq, ↓reduceIte, Nat.reduceBEq, Nat.reduceEqDiff, Nat.reduceLT, Nat.reduceLeDiff, Nat.reduceAdd, Nat.reduceMul, Nat.reduceSub, reduceCtorEq, Int.reduceToNat] <;> (repeat' first | rfl | apply And.intro))
    all_goals trace_state
  rintro ⟨S0, more⟩ ⟨hS0, hm0⟩
  simp only at hS0 hm0 ⊢
  cases more with
  | false =>
    have hl0 := hS0.len
    unfold oG oS
    repeat' first | ((first | refine Br.dec ?_ ?_ | refine Br.eqi ?_ ?_) <;> intro h <;> try (exfalso; omega)) | (simp (disch := first | omega | (simp only [vlen]; first | done | omega)) only [vit, ↓vAq, vBq, ↓reduceIte, Nat.reduceBEq, Nat.reduceEqDiff, Nat.reduceLT, Nat.reduceLeDiff, Nat.reduceAdd, Nat.reduceMul, Nat.reduceSub, reduceCtorEq, Int.reduceToNat]) | (refine Br.mk ?_ ?_ <;> intro h) | (refine BrN.mk (fun h => ?_) ?_) | (refine AltVC.mk ?_ ?_)
    refine LoopVC.mk (X := Nat × List (List It)) (fun z => [(80, iv .i64 z.1), (78, .ref 2 1 0 (w.length + 1)), (5, .ref 2 1 0 (w.length + 1))]) (fun z => [(2, oS z.2)]) (fun z => w.length + 1 - z.1)
      (fun z => z.1 ≤ w.length + 1 ∧ z.2.length = w.length + 1 ∧ ∀ j, (z.2.getD j []).Perm (S0.getD j []) ∧ (j < z.1 → Srt (z.2.getD j []))) (0, S0) ⟨Nat.zero_le _, hl0, fun j => ⟨.refl _, fun h => absurd h (Nat.not_lt_zero _)⟩⟩ ?_ ?_
    · unfold oS
      (simp (disch := first | omega | (simp only [vlen]; first | done | omega)) only [Fits_u, Fits_m, Fits_nil, List.length_append, vit, ↓vAq, vBq, ↓reduceIte, Nat.reduceBEq, Nat.reduceEqDiff, Nat.reduceLT, Nat.reduceLeDiff, Nat.reduceAdd, Nat.reduceMul, Nat.reduceSub, reduceCtorEq, Int.reduceToNat] <;> (repeat' first | rfl | apply And.intro))
      all_goals trace_state
    rintro ⟨k, S1⟩ ⟨k1, k2, k3⟩
    simp only at k1 k2 k3 ⊢
    by_cases hk : k < w.length + 1
    rotate_left
    · have e : k = w.length + 1 := by omega
      subst e
      have hend := sort_end hc hg hS0 (hm0 rfl) k2 k3
      unfold oS
      repeat' first | ((first | refine Br.dec ?_ ?_ | refine Br.eqi ?_ ?_) <;> intro h <;> try (exfalso; omega)) | (simp (disch := first | omega | (simp only [vlen]; first | done | omega)) only [vw_is, k2, vit, ↓vAq, vBq, ↓reduceIte, Nat.reduceBEq, Nat.reduceEqDiff, Nat.reduceLT, Nat.reduceLeDiff, Nat.reduceAdd, Nat.reduceMul, Nat.reduceSub, reduceCtorEq, Int.reduceToNat]) | (refine Br.mk ?_ ?_ <;> intro h) | (refine BrN.mk (fun h => ?_) ?_) | (refine AltVC.mk ?_ ?_)
      exact fin_mk ⟨S1, rfl, k2, hend⟩
    have hnd : (S1.getD k default).Nodup := (k3 k).1.nodup_iff.2 (hS0.nod k)
    have hsm : (S1.getD k default).length ≤ 650 := by
      have h1 := (k3 k).1.length_eq
      have h2 := hc.small hS0 k
      have h3 : (S1.getD k default).length = (S1.getD k []).length := rfl
      omega
    generalize hlk : S1.getD k default = L at *
    unfold oS
    repeat' first | ((first | refine Br.dec ?_ ?_ | refine Br.eqi ?_ ?_) <;> intro h <;> try (exfalso; omega)) | (simp (disch := first | omega | (simp only [vlen]; first | done | omega)) only [hlk, vit, ↓vAq, vBq, ↓reduceIte, Nat.reduceBEq, Nat.reduceEqDiff, Nat.reduceLT, Nat.reduceLeDiff, Nat.reduceAdd, Nat.reduceMul, Nat.reduceSub, reduceCtorEq, Int.reduceToNat]) | (refine Br.mk ?_ ?_ <;> intro h) | (refine BrN.mk (fun h => ?_) ?_) | (refine AltVC.mk ?_ ?_)
    refine LoopVC.mk (X := Nat × List It) (fun z => [(15, iv .i64 z.1), (14, .ref 3 3 0 L.length), (78, .ref 2 1 0 (w.length + 1)), (5, .ref 2 1 0 (w.length + 1))]) (fun z => [(2, oT S1 k L), (3, oL z.2)]) (fun z => 651 - z.1)
      (fun z => 1 ≤ z.1 ∧ z.1 ≤ max L.length 1 ∧ z.2.Perm L ∧ ∀ p q, p < q → q < z.1 → ilt (z.2.getD p default) (z.2.getD q default) = true) (1, L) ⟨Nat.le_refl _, by show 1 ≤ max L.length 1; omega, .refl _, fun p q hp hq => by simp only at hq; omega⟩ ?_ ?_
    · unfold oT oL
      (simp (disch := first | omega | (simp only [vlen]; first | done | omega)) only [Fits_u, Fits_m, Fits_nil, List.length_append, hlk, vit, ↓vAq, vBq, ↓reduceIte, Nat.reduceBEq, Nat.reduceEqDiff, Nat.reduceLT, Nat.reduceLeDiff, Nat.reduceAdd, Nat.reduceMul, Nat.reduceSub, reduceCtorEq, Int.reduceToNat] <;> (repeat' first | rfl | apply And.intro))
      all_goals trace_state
    rintro ⟨a, l1⟩ ⟨a1, a2, a3, a4⟩
    simp only at a1 a2 a3 a4 ⊢
    have hl1 := a3.length_eq
    by_cases ha : a < L.length
    rotate_left
    · have hso : Srt l1 := srt_of fun p q hp hq => a4 p q hp (by omega)
      have hfo : ((tbl scR S1).set k [.own false 3 (tbl itD l1)]) = tbl scR (S1.set k l1) := sc_set
      unfold oT oL
      repeat' first | ((first | refine Br.dec ?_ ?_ | refine Br.eqi ?_ ?_) <;> intro h <;> try (exfalso; omega)) | (simp (disch := first | omega | (simp only [vlen]; first | done | omega)) only [hl1, vit, ↓vAq, vBq, ↓reduceIte, Nat.reduceBEq, Nat.reduceEqDiff, Nat.reduceLT, Nat.reduceLeDiff, Nat.reduceAdd, Nat.reduceMul, Nat.reduceSub, reduceCtorEq, Int.reduceToNat]) | (refine Br.mk ?_ ?_ <;> intro h) | (refine BrN.mk (fun h => ?_) ?_) | (refine AltVC.mk ?_ ?_)
      refine loopK.fold 3 2 k 0 true ?_
      repeat' first | ((first | refine Br.dec ?_ ?_ | refine Br.eqi ?_ ?_) <;> intro h <;> try (exfalso; omega)) | (simp (disch := first | omega | (simp only [vlen]; first | done | omega)) only [hfo, hl1, vit, ↓vAq, vBq, ↓reduceIte, Nat.reduceBEq, Nat.reduceEqDiff, Nat.reduceLT, Nat.reduceLeDiff, Nat.reduceAdd, Nat.reduceMul, Nat.reduceSub, reduceCtorEq, Int.reduceToNat]) | (refine Br.mk ?_ ?_ <;> intro h) | (refine BrN.mk (fun h => ?_) ?_) | (refine AltVC.mk ?_ ?_)
      refine loopK.mk (k + 1, S1.set k l1) (by simp (disch := first | omega | (simp only [vlen]; first | done | omega)) only [vit, ↓vAq, vBq, ↓reduceIte, Nat.reduceBEq, Nat.reduceEqDiff, Nat.reduceLT, Nat.reduceLeDiff, Nat.reduceAdd, Nat.reduceMul, Nat.reduceSub, reduceCtorEq, Int.reduceToNat]) ⟨by show k + 1 ≤ _; omega, by show (S1.set k l1).length = _; rw [List.length_set]; exact k2, fun j => by
        show ((S1.set k l1).getD j []).Perm (S0.getD j []) ∧ (j < k + 1 → Srt ((S1.set k l1).getD j []))
        rw [getD_set' (by omega)]
        by_cases e : j = k
        · subst e
          rw [if_pos rfl]
          have h1 := (k3 j).1
          rw [show S1.getD j [] = L from hlk] at h1
          exact ⟨a3.trans h1, fun _ => hso⟩
        · rw [if_neg e]
          exact ⟨(k3 j).1, fun h => (k3 j).2 (by omega)⟩⟩ (by show _ - (k + 1) < _ - k; omega) ?_
      (simp (disch := first | omega | (simp only [vlen]; first | done | omega)) only [Fits_u, Fits_m, Fits_nil, List.length_append, hfo, hl1, vit, ↓vAq, vBq, ↓reduceIte, Nat.reduceBEq, Nat.reduceEqDiff, Nat.reduceLT, Nat.reduceLeDiff, Nat.reduceAdd, Nat.reduceMul, Nat.reduceSub, reduceCtorEq, Int.reduceToNat] <;> (repeat' first | rfl | apply And.intro))
      all_goals trace_state
    unfold oT oL
    repeat' first | ((first | refine Br.dec ?_ ?_ | refine Br.eqi ?_ ?_) <;> intro h <;> try (exfalso; omega)) | (simp (disch := first | omega | (simp only [vlen]; first | done | omega)) only [hl1, vit, ↓vAq, vBq, ↓reduceIte, Nat.reduceBEq, Nat.reduceEqDiff, Nat.reduceLT, Nat.reduceLeDiff, Nat.reduceAdd, Nat.reduceMul, Nat.reduceSub, reduceCtorEq, Int.reduceToNat]) | (refine Br.mk ?_ ?_ <;> intro h) | (refine BrN.mk (fun h => ?_) ?_) | (refine AltVC.mk ?_ ?_)
    refine LoopVC.mk (X := Nat × List It) (fun z => [(16, iv .i64 z.1), (14, .ref 3 3 0 L.length), (78, .ref 2 1 0 (w.length + 1)), (5, .ref 2 1 0 (w.length + 1))]) (fun z => [(2, oT S1 k L), (3, oL z.2)]) (fun z => z.1)
      (fun z => z.1 ≤ a ∧ z.2.Perm L ∧ Ins z.2 a z.1) (a, l1) ⟨Nat.le_refl _, a3, .start a4⟩ ?_ ?_
    · unfold oT oL
      (simp (disch := first | omega | (simp only [vlen]; first | done | omega)) only [Fits_u, Fits_m, Fits_nil, List.length_append, hl1, st_trims, vit, ↓vAq, vBq, ↓reduceIte, Nat.reduceBEq, Nat.reduceEqDiff, Nat.reduceLT, Nat.reduceLeDiff, Nat.reduceAdd, Nat.reduceMul, Nat.reduceSub, reduceCtorEq, Int.reduceToNat] <;> (repeat' first | rfl | apply And.intro))
      all_goals trace_state
    rintro ⟨b, l2⟩ ⟨b1, b2, b3⟩
    simp only at b1 b2 b3 ⊢
    have hl2 := b2.length_eq
    unfold oT oL
    cases b with
    | zero =>
      repeat' first | ((first | refine Br.dec ?_ ?_ | refine Br.eqi ?_ ?_) <;> intro h <;> try (exfalso; omega)) | (simp (disch := first | omega | (simp only [vlen]; first | done | omega)) only [hl2, ac1, vit, ↓vAq, vBq, ↓reduceIte, Nat.reduceBEq, Nat.reduceEqDiff, Nat.reduceLT, Nat.reduceLeDiff, Nat.reduceAdd, Nat.reduceMul, Nat.reduceSub, reduceCtorEq, Int.reduceToNat]) | (refine Br.mk ?_ ?_ <;> intro h) | (refine BrN.mk (fun h => ?_) ?_) | (refine AltVC.mk ?_ ?_)
      refine loopK.mk (a + 1, l2) (by simp (disch := first | omega | (simp only [vlen]; first | done | omega)) only [vit, ↓vAq, vBq, ↓reduceIte, Nat.reduceBEq, Nat.reduceEqDiff, Nat.reduceLT, Nat.reduceLeDiff, Nat.reduceAdd, Nat.reduceMul, Nat.reduceSub, reduceCtorEq, Int.reduceToNat]) ⟨by show 1 ≤ a + 1; omega, by show a + 1 ≤ max L.length 1; omega, b2, b3.end0⟩ (by show 651 - (a + 1) < 651 - a; omega) ?_
      (simp (disch := first | omega | (simp only [vlen]; first | done | omega)) only [Fits_u, Fits_m, Fits_nil, List.length_append, hl2, st_trims, vit, ↓vAq, vBq, ↓reduceIte, Nat.reduceBEq, Nat.reduceEqDiff, Nat.reduceLT, Nat.reduceLeDiff, Nat.reduceAdd, Nat.reduceMul, Nat.reduceSub, reduceCtorEq, Int.reduceToNat] <;> (repeat' first | rfl | apply And.intro))
      all_goals trace_state
    | succ b =>
      have hah := ahead_spec (l2.getD (b + 1) default) (l2.getD b default)
      have hnd2 : l2.Nodup := b2.nodup_iff.2 hnd
      repeat' first | ((first | refine Br.dec ?_ ?_ | refine Br.eqi ?_ ?_) <;> intro h <;> try (exfalso; omega)) | (simp (disch := first | omega | (simp only [vlen]; first | done | omega)) only [hl2, ac1, vit, ↓vAq, vBq, ↓reduceIte, Nat.reduceBEq, Nat.reduceEqDiff, Nat.reduceLT, Nat.reduceLeDiff, Nat.reduceAdd, Nat.reduceMul, Nat.reduceSub, reduceCtorEq, Int.reduceToNat]) | (refine Br.mk ?_ ?_ <;> intro h) | (refine BrN.mk (fun h => ?_) ?_) | (refine AltVC.mk ?_ ?_)
      refine CallVC.eqo hah plain_v ?_
      by_cases hlt : ilt (l2.getD (b + 1) default) (l2.getD b default) = true
      · have hper := (iwp_perm (l := l2) (b := b) (by omega)).trans b2
        have hs1 : (tbl itD l2).set (b + 1) [D.v (.int .i64 ((l2.getD b default).1 : Nat)), D.v (.int .i64 ((l2.getD b default).2.1 : Nat)), D.v (.int .i64 ((l2.getD b default).2.2 : Nat))] = tbl itD (l2.set (b + 1) (l2.getD b default)) := by rw [← tbl_set]; rfl
        have hd1 : List.drop 3 ((tbl itD (l2.set (b + 1) (l2.getD b default))).getD b []) = [] := by
          have h7 : b < (l2.set (b + 1) (l2.getD b default)).length := by rw [List.length_set]; omega
          have := it_at h7
          rw [this]; rfl
        have hs2 : (tbl itD (l2.set (b + 1) (l2.getD b default))).set b [D.v (.int .i64 ((l2.getD (b + 1) default).1 : Nat)), D.v (.int .i64 ((l2.getD (b + 1) default).2.1 : Nat)), D.v (.int .i64 ((l2.getD (b + 1) default).2.2 : Nat))] = tbl itD (iwp l2 b) := it_st (l := l2.set (b + 1) (l2.getD b default)) (b := b) (x := l2.getD (b + 1) default)
        rw [hlt]
        repeat' first | ((first | refine Br.dec ?_ ?_ | refine Br.eqi ?_ ?_) <;> intro h <;> try (exfalso; omega)) | (simp (disch := first | omega | (simp only [vlen]; first | done | omega)) only [hl2, ac1, hs1, hd1, hs2, vit, ↓vAq, vBq, ↓reduceIte, Nat.reduceBEq, Nat.reduceEqDiff, Nat.reduceLT, Nat.reduceLeDiff, Nat.reduceAdd, Nat.reduceMul, Nat.reduceSub, reduceCtorEq, Int.reduceToNat]) | (refine Br.mk ?_ ?_ <;> intro h) | (refine BrN.mk (fun h => ?_) ?_) | (refine AltVC.mk ?_ ?_)
        refine loopK.mk (b, iwp l2 b) (by simp (disch := first | omega | (simp only [vlen]; first | done | omega)) only [vit, ↓vAq, vBq, ↓reduceIte, Nat.reduceBEq, Nat.reduceEqDiff, Nat.reduceLT, Nat.reduceLeDiff, Nat.reduceAdd, Nat.reduceMul, Nat.reduceSub, reduceCtorEq, Int.reduceToNat]) ⟨by show b ≤ a; omega, hper, b3.swap b1 (by omega) hlt⟩ (by show b < b + 1; omega) ?_
        (simp (disch := first | omega | (simp only [vlen]; first | done | omega)) only [Fits_u, Fits_m, Fits_nil, List.length_append, hl2, st_trims, hs1, hd1, hs2, vit, ↓vAq, vBq, ↓reduceIte, Nat.reduceBEq, Nat.reduceEqDiff, Nat.reduceLT, Nat.reduceLeDiff, Nat.reduceAdd, Nat.reduceMul, Nat.reduceSub, reduceCtorEq, Int.reduceToNat] <;> (repeat' first | rfl | apply And.intro))
        all_goals trace_state
      · have hfe := b3.ends b1 (by omega) hnd2 hlt
        rw [show ilt (l2.getD (b + 1) default) (l2.getD b default) = false by simpa using hlt]
        repeat' first | ((first | refine Br.dec ?_ ?_ | refine Br.eqi ?_ ?_) <;> intro h <;> try (exfalso; omega)) | (simp (disch := first | omega | (simp only [vlen]; first | done | omega)) only [hl2, ac1, vit, ↓vAq, vBq, ↓reduceIte, Nat.reduceBEq, Nat.reduceEqDiff, Nat.reduceLT, Nat.reduceLeDiff, Nat.reduceAdd, Nat.reduceMul, Nat.reduceSub, reduceCtorEq, Int.reduceToNat]) | (refine Br.mk ?_ ?_ <;> intro h) | (refine BrN.mk (fun h => ?_) ?_) | (refine AltVC.mk ?_ ?_)
        refine loopK.mk (a + 1, l2) (by simp (disch := first | omega | (simp only [vlen]; first | done | omega)) only [vit, ↓vAq, vBq, ↓reduceIte, Nat.reduceBEq, Nat.reduceEqDiff, Nat.reduceLT, Nat.reduceLeDiff, Nat.reduceAdd, Nat.reduceMul, Nat.reduceSub, reduceCtorEq, Int.reduceToNat]) ⟨by show 1 ≤ a + 1; omega, by show a + 1 ≤ max L.length 1; omega, b2, hfe⟩ (by show 651 - (a + 1) < 651 - a; omega) ?_
        (simp (disch := first | omega | (simp only [vlen]; first | done | omega)) only [Fits_u, Fits_m, Fits_nil, List.length_append, hl2, st_trims, vit, ↓vAq, vBq, ↓reduceIte, Nat.reduceBEq, Nat.reduceEqDiff, Nat.reduceLT, Nat.reduceLeDiff, Nat.reduceAdd, Nat.reduceMul, Nat.reduceSub, reduceCtorEq, Int.reduceToNat] <;> (repeat' first | rfl | apply And.intro))
        all_goals trace_state
  | true =>
    have hl0 := hS0.len
    unfold oG oS
    repeat' first | ((first | refine Br.dec ?_ ?_ | refine Br.eqi ?_ ?_) <;> intro h <;> try (exfalso; omega)) | (simp (disch := first | omega | (simp only [vlen]; first | done | omega)) only [vit, ↓vAq, vBq, ↓reduceIte, Nat.reduceBEq, Nat.reduceEqDiff, Nat.reduceLT, Nat.reduceLeDiff, Nat.reduceAdd, Nat.reduceMul, Nat.reduceSub, reduceCtorEq, Int.reduceToNat]) | (refine Br.mk ?_ ?_ <;> intro h) | (refine BrN.mk (fun h => ?_) ?_) | (refine AltVC.mk ?_ ?_)
    refine LoopVC.mk (X := Z3) (fun z => [(7, iv .i64 z.1), (6, .v (.bool z.2.2)), (5, .ref 2 1 0 (w.length + 1))]) (fun z => [(0, oG g), (2, oS z.2.1)]) (fun z => w.length + 1 - z.1)
      (fun z => z.1 ≤ w.length + 1 ∧ QQ g w S0 z.2.1 z.2.2 ∧ (z.2.2 = false → ∀ i, i < z.1 → F1 g w z.2.1 i)) (0, S0, false) ⟨Nat.zero_le _, ⟨hS0, fun _ => rfl, fun h => by cases h⟩, fun _ i hi => absurd hi (Nat.not_lt_zero _)⟩ ?_ ?_
    · unfold oG oS
      (simp (disch := first | omega | (simp only [vlen]; first | done | omega)) only [Fits_u, Fits_m, Fits_nil, List.length_append, vit, ↓vAq, vBq, ↓reduceIte, Nat.reduceBEq, Nat.reduceEqDiff, Nat.reduceLT, Nat.reduceLeDiff, Nat.reduceAdd, Nat.reduceMul, Nat.reduceSub, reduceCtorEq, Int.reduceToNat] <;> (repeat' first | rfl | apply And.intro))
      all_goals trace_state
    rintro ⟨i, S1, b1⟩ ⟨i1, i2, i3⟩
    simp only at i1 i2 i3 ⊢
    have hl1 := i2.s.len
    by_cases hi : i < w.length + 1
    rotate_left
    · have e : i = w.length + 1 := by omega
      subst e
      unfold oG oS
      repeat' first | ((first | refine Br.dec ?_ ?_ | refine Br.eqi ?_ ?_) <;> intro h <;> try (exfalso; omega)) | (simp (disch := first | omega | (simp only [vlen]; first | done | omega)) only [vit, ↓vAq, vBq, ↓reduceIte, Nat.reduceBEq, Nat.reduceEqDiff, Nat.reduceLT, Nat.reduceLeDiff, Nat.reduceAdd, Nat.reduceMul, Nat.reduceSub, reduceCtorEq, Int.reduceToNat]) | (refine Br.mk ?_ ?_ <;> intro h) | (refine BrN.mk (fun h => ?_) ?_) | (refine AltVC.mk ?_ ?_)
      refine loopK.mk (S1, b1) (by simp (disch := first | omega | (simp only [vlen]; first | done | omega)) only [vit, ↓vAq, vBq, ↓reduceIte, Nat.reduceBEq, Nat.reduceEqDiff, Nat.reduceLT, Nat.reduceLeDiff, Nat.reduceAdd, Nat.reduceMul, Nat.reduceSub, reduceCtorEq, Int.reduceToNat]) ⟨i2.s, i3⟩ (by
        have h1 := Snd.tot hc i2.s
        have h2 := i2.t
        have h3 := i2.e
        cases b1 with
        | false => rw [h3 rfl]; simp
        | true => have := h2 rfl; simp; omega) ?_
      (simp (disch := first | omega | (simp only [vlen]; first | done | omega)) only [Fits_u, Fits_m, Fits_nil, List.length_append, vit, ↓vAq, vBq, ↓reduceIte, Nat.reduceBEq, Nat.reduceEqDiff, Nat.reduceLT, Nat.reduceLeDiff, Nat.reduceAdd, Nat.reduceMul, Nat.reduceSub, reduceCtorEq, Int.reduceToNat] <;> (repeat' first | rfl | apply And.intro))
      all_goals trace_state
    unfold oG oS
    repeat' first | ((first | refine Br.dec ?_ ?_ | refine Br.eqi ?_ ?_) <;> intro h <;> try (exfalso; omega)) | (simp (disch := first | omega | (simp only [vlen]; first | done | omega)) only [vit, ↓vAq, vBq, ↓reduceIte, Nat.reduceBEq, Nat.reduceEqDiff, Nat.reduceLT, Nat.reduceLeDiff, Nat.reduceAdd, Nat.reduceMul, Nat.reduceSub, reduceCtorEq, Int.reduceToNat]) | (refine Br.mk ?_ ?_ <;> intro h) | (refine BrN.mk (fun h => ?_) ?_) | (refine AltVC.mk ?_ ?_)
    refine LoopVC.mk (X := Z3) (fun z => [(31, iv .i64 z.1), (6, .v (.bool z.2.2)), (5, .ref 2 1 0 (w.length + 1))]) (fun z => [(0, oG g), (2, oS z.2.1)]) (fun z => g.rules.length - z.1)
      (fun z => z.1 ≤ g.rules.length ∧ QQ g w S0 z.2.1 z.2.2 ∧ (b1 = true → z.2.2 = true) ∧ (z.2.2 = false → ∀ r, r < z.1 → F2 g w z.2.1 i r)) (0, S1, b1) ⟨Nat.zero_le _, i2, fun h => h, fun _ r hr => absurd hr (Nat.not_lt_zero _)⟩ ?_ ?_
    · unfold oG oS
      (simp (disch := first | omega | (simp only [vlen]; first | done | omega)) only [Fits_u, Fits_m, Fits_nil, List.length_append, vit, ↓vAq, vBq, ↓reduceIte, Nat.reduceBEq, Nat.reduceEqDiff, Nat.reduceLT, Nat.reduceLeDiff, Nat.reduceAdd, Nat.reduceMul, Nat.reduceSub, reduceCtorEq, Int.reduceToNat] <;> (repeat' first | rfl | apply And.intro))
      all_goals trace_state
    rintro ⟨r, S2, b2⟩ ⟨r1, r2, r3, r4⟩
    simp only at r1 r2 r3 r4 ⊢
    have hl2 := r2.s.len
    by_cases hr : r < g.rules.length
    rotate_left
    · have e : r = g.rules.length := by omega
      subst e
      unfold oG oS
      repeat' first | ((first | refine Br.dec ?_ ?_ | refine Br.eqi ?_ ?_) <;> intro h <;> try (exfalso; omega)) | (simp (disch := first | omega | (simp only [vlen]; first | done | omega)) only [vit, ↓vAq, vBq, ↓reduceIte, Nat.reduceBEq, Nat.reduceEqDiff, Nat.reduceLT, Nat.reduceLeDiff, Nat.reduceAdd, Nat.reduceMul, Nat.reduceSub, reduceCtorEq, Int.reduceToNat]) | (refine Br.mk ?_ ?_ <;> intro h) | (refine BrN.mk (fun h => ?_) ?_) | (refine AltVC.mk ?_ ?_)
      refine loopK.mk (i + 1, S2, b2) (by simp (disch := first | omega | (simp only [vlen]; first | done | omega)) only [vit, ↓vAq, vBq, ↓reduceIte, Nat.reduceBEq, Nat.reduceEqDiff, Nat.reduceLT, Nat.reduceLeDiff, Nat.reduceAdd, Nat.reduceMul, Nat.reduceSub, reduceCtorEq, Int.reduceToNat]) ⟨by show i + 1 ≤ _; omega, r2, fun h => below_succ (by
        have hb1 : b1 = false := by cases b1 with
          | false => rfl
          | true => rw [r3 rfl] at h; cases h
        rw [r2.e h, ← i2.e hb1]; exact i3 hb1) (r4 h)⟩ (by show _ - (i + 1) < _ - i; omega) ?_
      (simp (disch := first | omega | (simp only [vlen]; first | done | omega)) only [Fits_u, Fits_m, Fits_nil, List.length_append, vit, ↓vAq, vBq, ↓reduceIte, Nat.reduceBEq, Nat.reduceEqDiff, Nat.reduceLT, Nat.reduceLeDiff, Nat.reduceAdd, Nat.reduceMul, Nat.reduceSub, reduceCtorEq, Int.reduceToNat] <;> (repeat' first | rfl | apply And.intro))
      all_goals trace_state
    have hlen4 : (rgt g r).length ≤ 4 := hc.v.long _ (getD_mem' hr)
    unfold oG oS
    repeat' first | ((first | refine Br.dec ?_ ?_ | refine Br.eqi ?_ ?_) <;> intro h <;> try (exfalso; omega)) | (simp (disch := first | omega | (simp only [vlen]; first | done | omega)) only [vit, ↓vAq, vBq, ↓reduceIte, Nat.reduceBEq, Nat.reduceEqDiff, Nat.reduceLT, Nat.reduceLeDiff, Nat.reduceAdd, Nat.reduceMul, Nat.reduceSub, reduceCtorEq, Int.reduceToNat]) | (refine Br.mk ?_ ?_ <;> intro h) | (refine BrN.mk (fun h => ?_) ?_) | (refine AltVC.mk ?_ ?_)
    refine LoopVC.mk (X := Z3) (fun z => [(10, iv .i64 z.1), (6, .v (.bool z.2.2)), (5, .ref 2 1 0 (w.length + 1))]) (fun z => [(0, oG g), (2, oS z.2.1), (3, oR g r)]) (fun z => (rgt g r).length + 1 - z.1)
      (fun z => z.1 ≤ (rgt g r).length + 1 ∧ QQ g w S0 z.2.1 z.2.2 ∧ (b2 = true → z.2.2 = true) ∧ (z.2.2 = false → ∀ d, d < z.1 → F3 g w z.2.1 i r d)) (0, S2, b2) ⟨Nat.zero_le _, r2, fun h => h, fun _ d hd => absurd hd (Nat.not_lt_zero _)⟩ ?_ ?_
    · unfold oG oS oR
      (simp (disch := first | omega | (simp only [vlen]; first | done | omega)) only [Fits_u, Fits_m, Fits_nil, List.length_append, vit, ↓vAq, vBq, ↓reduceIte, Nat.reduceBEq, Nat.reduceEqDiff, Nat.reduceLT, Nat.reduceLeDiff, Nat.reduceAdd, Nat.reduceMul, Nat.reduceSub, reduceCtorEq, Int.reduceToNat] <;> (repeat' first | rfl | apply And.intro))
      all_goals trace_state
    rintro ⟨d, S3, b3⟩ ⟨d1, d2, d3, d4⟩
    simp only at d1 d2 d3 d4 ⊢
    have hl3 := d2.s.len
    have hrg : (rgt g r).length = (g.rules.getD r default).right.length := rfl
    by_cases hd : d < (rgt g r).length + 1
    rotate_left
    · have e : d = (rgt g r).length + 1 := by omega
      unfold oG oS oR
      repeat' first | ((first | refine Br.dec ?_ ?_ | refine Br.eqi ?_ ?_) <;> intro h <;> try (exfalso; omega)) | (simp (disch := first | omega | (simp only [vlen]; first | done | omega)) only [vit, ↓vAq, vBq, ↓reduceIte, Nat.reduceBEq, Nat.reduceEqDiff, Nat.reduceLT, Nat.reduceLeDiff, Nat.reduceAdd, Nat.reduceMul, Nat.reduceSub, reduceCtorEq, Int.reduceToNat]) | (refine Br.mk ?_ ?_ <;> intro h) | (refine BrN.mk (fun h => ?_) ?_) | (refine AltVC.mk ?_ ?_)
      refine loopK.mk (r + 1, S3, b3) (by simp (disch := first | omega | (simp only [vlen]; first | done | omega)) only [vit, ↓vAq, vBq, ↓reduceIte, Nat.reduceBEq, Nat.reduceEqDiff, Nat.reduceLT, Nat.reduceLeDiff, Nat.reduceAdd, Nat.reduceMul, Nat.reduceSub, reduceCtorEq, Int.reduceToNat]) ⟨by show r + 1 ≤ _; omega, d2, fun h => d3 (r3 h), fun h => below_succ (by
        have hb2 : b2 = false := by cases b2 with
          | false => rfl
          | true => rw [d3 rfl] at h; cases h
        rw [d2.e h, ← r2.e hb2]; exact r4 hb2) (fun d' hd' => d4 h d' (by omega))⟩ (by show _ - (r + 1) < _ - r; omega) ?_
      (simp (disch := first | omega | (simp only [vlen]; first | done | omega)) only [Fits_u, Fits_m, Fits_nil, List.length_append, vit, ↓vAq, vBq, ↓reduceIte, Nat.reduceBEq, Nat.reduceEqDiff, Nat.reduceLT, Nat.reduceLeDiff, Nat.reduceAdd, Nat.reduceMul, Nat.reduceSub, reduceCtorEq, Int.reduceToNat] <;> (repeat' first | rfl | apply And.intro))
      all_goals trace_state
    unfold oG oS oR
    repeat' first | ((first | refine Br.dec ?_ ?_ | refine Br.eqi ?_ ?_) <;> intro h <;> try (exfalso; omega)) | (simp (disch := first | omega | (simp only [vlen]; first | done | omega)) only [vit, ↓vAq, vBq, ↓reduceIte, Nat.reduceBEq, Nat.reduceEqDiff, Nat.reduceLT, Nat.reduceLeDiff, Nat.reduceAdd, Nat.reduceMul, Nat.reduceSub, reduceCtorEq, Int.reduceToNat]) | (refine Br.mk ?_ ?_ <;> intro h) | (refine BrN.mk (fun h => ?_) ?_) | (refine AltVC.mk ?_ ?_)
    refine LoopVC.mk (X := Z3) (fun z => [(11, iv .i64 z.1), (6, .v (.bool z.2.2)), (5, .ref 2 1 0 (w.length + 1))]) (fun z => [(0, oG g), (2, oS z.2.1), (3, oR g r)]) (fun z => i + 1 - z.1)
      (fun z => z.1 ≤ i + 1 ∧ QQ g w S0 z.2.1 z.2.2 ∧ (b3 = true → z.2.2 = true) ∧ (z.2.2 = false → ∀ f, f < z.1 → Fn g w z.2.1 i r d f)) (0, S3, b3) ⟨Nat.zero_le _, d2, fun h => h, fun _ f hf => absurd hf (Nat.not_lt_zero _)⟩ ?_ ?_
    · unfold oG oS oR
      (simp (disch := first | omega | (simp only [vlen]; first | done | omega)) only [Fits_u, Fits_m, Fits_nil, List.length_append, vit, ↓vAq, vBq, ↓reduceIte, Nat.reduceBEq, Nat.reduceEqDiff, Nat.reduceLT, Nat.reduceLeDiff, Nat.reduceAdd, Nat.reduceMul, Nat.reduceSub, reduceCtorEq, Int.reduceToNat] <;> (repeat' first | rfl | apply And.intro))
      all_goals trace_state
    rintro ⟨f, S4, b4⟩ ⟨f1, f2, f3, f4⟩
    simp only at f1 f2 f3 f4 ⊢
    have hl4 := f2.s.len
    by_cases hf : f < i + 1
    rotate_left
    · have e : f = i + 1 := by omega
      unfold oG oS oR
      repeat' first | ((first | refine Br.dec ?_ ?_ | refine Br.eqi ?_ ?_) <;> intro h <;> try (exfalso; omega)) | (simp (disch := first | omega | (simp only [vlen]; first | done | omega)) only [vit, ↓vAq, vBq, ↓reduceIte, Nat.reduceBEq, Nat.reduceEqDiff, Nat.reduceLT, Nat.reduceLeDiff, Nat.reduceAdd, Nat.reduceMul, Nat.reduceSub, reduceCtorEq, Int.reduceToNat]) | (refine Br.mk ?_ ?_ <;> intro h) | (refine BrN.mk (fun h => ?_) ?_) | (refine AltVC.mk ?_ ?_)
      refine loopK.mk (d + 1, S4, b4) (by simp (disch := first | omega | (simp only [vlen]; first | done | omega)) only [vit, ↓vAq, vBq, ↓reduceIte, Nat.reduceBEq, Nat.reduceEqDiff, Nat.reduceLT, Nat.reduceLeDiff, Nat.reduceAdd, Nat.reduceMul, Nat.reduceSub, reduceCtorEq, Int.reduceToNat]) ⟨by show d + 1 ≤ _; omega, f2, fun h => f3 (d3 h), fun h => below_succ (by
        have hb3 : b3 = false := by cases b3 with
          | false => rfl
          | true => rw [f3 rfl] at h; cases h
        rw [f2.e h, ← d2.e hb3]; exact d4 hb3) (fun f' hf' => f4 h f' (by omega))⟩ (by show _ - (d + 1) < _ - d; omega) ?_
      (simp (disch := first | omega | (simp only [vlen]; first | done | omega)) only [Fits_u, Fits_m, Fits_nil, List.length_append, vit, ↓vAq, vBq, ↓reduceIte, Nat.reduceBEq, Nat.reduceEqDiff, Nat.reduceLT, Nat.reduceLeDiff, Nat.reduceAdd, Nat.reduceMul, Nat.reduceSub, reduceCtorEq, Int.reduceToNat] <;> (repeat' first | rfl | apply And.intro))
      all_goals trace_state
    have hwi : Wi g w.length i (r, d, f) := ⟨hr, by show d ≤ (rgt g r).length; omega, by show f ≤ i; omega, by omega⟩
    have hws := Snd.ws hc f2.s
    have hth := there_spec (S4.getD i default) (r, d, f) (hws.sm i) (fun y hy => Wi.smI hc (hws.wi i y hy)) (Wi.smI hc hwi)
    have hco := comes_spec g w hc S4 hws i (r, d, f) hwi
    have hself : (tbl scR S4).set i [.own false 3 (tbl itD (S4.getD i default))] = tbl scR S4 := by rw [sc_set, ss_same (by omega)]
    have hsm : (S4.getD i default).length ≤ 650 := hc.small f2.s i
    unfold oG oS oR
    repeat' first | ((first | refine Br.dec ?_ ?_ | refine Br.eqi ?_ ?_) <;> intro h <;> try (exfalso; omega)) | (simp (disch := first | omega | (simp only [vlen]; first | done | omega)) only [vit, ↓vAq, vBq, ↓reduceIte, Nat.reduceBEq, Nat.reduceEqDiff, Nat.reduceLT, Nat.reduceLeDiff, Nat.reduceAdd, Nat.reduceMul, Nat.reduceSub, reduceCtorEq, Int.reduceToNat]) | (refine Br.mk ?_ ?_ <;> intro h) | (refine BrN.mk (fun h => ?_) ?_) | (refine AltVC.mk ?_ ?_)
    refine CallVC.eqo hth plain_v ?_
    by_cases hin : (r, d, f) ∈ S4.getD i default
    · rw [decide_eq_true hin]
      repeat' first | ((first | refine Br.dec ?_ ?_ | refine Br.eqi ?_ ?_) <;> intro h <;> try (exfalso; omega)) | (simp (disch := first | omega | (simp only [vlen]; first | done | omega)) only [vit, ↓vAq, vBq, ↓reduceIte, Nat.reduceBEq, Nat.reduceEqDiff, Nat.reduceLT, Nat.reduceLeDiff, Nat.reduceAdd, Nat.reduceMul, Nat.reduceSub, reduceCtorEq, Int.reduceToNat]) | (refine Br.mk ?_ ?_ <;> intro h) | (refine BrN.mk (fun h => ?_) ?_) | (refine AltVC.mk ?_ ?_)
      refine loopK.fold 5 2 i 0 true ?_
      repeat' first | ((first | refine Br.dec ?_ ?_ | refine Br.eqi ?_ ?_) <;> intro h <;> try (exfalso; omega)) | (simp (disch := first | omega | (simp only [vlen]; first | done | omega)) only [hself, vit, ↓vAq, vBq, ↓reduceIte, Nat.reduceBEq, Nat.reduceEqDiff, Nat.reduceLT, Nat.reduceLeDiff, Nat.reduceAdd, Nat.reduceMul, Nat.reduceSub, reduceCtorEq, Int.reduceToNat]) | (refine Br.mk ?_ ?_ <;> intro h) | (refine BrN.mk (fun h => ?_) ?_) | (refine AltVC.mk ?_ ?_)
      refine loopK.mk (f + 1, S4, b4) (by simp (disch := first | omega | (simp only [vlen]; first | done | omega)) only [vit, ↓vAq, vBq, ↓reduceIte, Nat.reduceBEq, Nat.reduceEqDiff, Nat.reduceLT, Nat.reduceLeDiff, Nat.reduceAdd, Nat.reduceMul, Nat.reduceSub, reduceCtorEq, Int.reduceToNat]) ⟨by show f + 1 ≤ _; omega, f2, f3, fun h => below_succ (f4 h) (fun _ => hin)⟩ (by show _ - (f + 1) < _ - f; omega) ?_
      (simp (disch := first | omega | (simp only [vlen]; first | done | omega)) only [Fits_u, Fits_m, Fits_nil, List.length_append, hself, vit, ↓vAq, vBq, ↓reduceIte, Nat.reduceBEq, Nat.reduceEqDiff, Nat.reduceLT, Nat.reduceLeDiff, Nat.reduceAdd, Nat.reduceMul, Nat.reduceSub, reduceCtorEq, Int.reduceToNat] <;> (repeat' first | rfl | apply And.intro))
      all_goals trace_state
    · rw [decide_eq_false hin]
      repeat' first | ((first | refine Br.dec ?_ ?_ | refine Br.eqi ?_ ?_) <;> intro h <;> try (exfalso; omega)) | (simp (disch := first | omega | (simp only [vlen]; first | done | omega)) only [vit, ↓vAq, vBq, ↓reduceIte, Nat.reduceBEq, Nat.reduceEqDiff, Nat.reduceLT, Nat.reduceLeDiff, Nat.reduceAdd, Nat.reduceMul, Nat.reduceSub, reduceCtorEq, Int.reduceToNat]) | (refine Br.mk ?_ ?_ <;> intro h) | (refine BrN.mk (fun h => ?_) ?_) | (refine AltVC.mk ?_ ?_)
      refine CallVC.fold 5 2 i 0 true ?_
      repeat' first | ((first | refine Br.dec ?_ ?_ | refine Br.eqi ?_ ?_) <;> intro h <;> try (exfalso; omega)) | (simp (disch := first | omega | (simp only [vlen]; first | done | omega)) only [hself, vw_is, hl4, vit, ↓vAq, vBq, ↓reduceIte, Nat.reduceBEq, Nat.reduceEqDiff, Nat.reduceLT, Nat.reduceLeDiff, Nat.reduceAdd, Nat.reduceMul, Nat.reduceSub, reduceCtorEq, Int.reduceToNat]) | (refine Br.mk ?_ ?_ <;> intro h) | (refine BrN.mk (fun h => ?_) ?_) | (refine AltVC.mk ?_ ?_)
      refine CallVC.eqo hco plain_v ?_
      cases hcb : comB g w S4 i (r, d, f) with
      | false =>
        repeat' first | ((first | refine Br.dec ?_ ?_ | refine Br.eqi ?_ ?_) <;> intro h <;> try (exfalso; omega)) | (simp (disch := first | omega | (simp only [vlen]; first | done | omega)) only [hself, vit, ↓vAq, vBq, ↓reduceIte, Nat.reduceBEq, Nat.reduceEqDiff, Nat.reduceLT, Nat.reduceLeDiff, Nat.reduceAdd, Nat.reduceMul, Nat.reduceSub, reduceCtorEq, Int.reduceToNat]) | (refine Br.mk ?_ ?_ <;> intro h) | (refine BrN.mk (fun h => ?_) ?_) | (refine AltVC.mk ?_ ?_)
        refine loopK.mk (f + 1, S4, b4) (by simp (disch := first | omega | (simp only [vlen]; first | done | omega)) only [vit, ↓vAq, vBq, ↓reduceIte, Nat.reduceBEq, Nat.reduceEqDiff, Nat.reduceLT, Nat.reduceLeDiff, Nat.reduceAdd, Nat.reduceMul, Nat.reduceSub, reduceCtorEq, Int.reduceToNat]) ⟨by show f + 1 ≤ _; omega, f2, f3, fun h => below_succ (f4 h) (fun h2 => by rw [hcb] at h2; cases h2)⟩ (by show _ - (f + 1) < _ - f; omega) ?_
        (simp (disch := first | omega | (simp only [vlen]; first | done | omega)) only [Fits_u, Fits_m, Fits_nil, List.length_append, hself, vit, ↓vAq, vBq, ↓reduceIte, Nat.reduceBEq, Nat.reduceEqDiff, Nat.reduceLT, Nat.reduceLeDiff, Nat.reduceAdd, Nat.reduceMul, Nat.reduceSub, reduceCtorEq, Int.reduceToNat] <;> (repeat' first | rfl | apply And.intro))
        all_goals trace_state
      | true =>
        have hE : Ear g w i (r, d, f) := com_snd hc (fun _ _ h => f2.s.ear _ _ h) hwi hcb
        have hin' : (r, d, f) ∉ S4.getD i [] := hin
        have ea : addS S4 i (r, d, f) = S4.set i (S4.getD i default ++ [(r, d, f)]) := if_neg hin'
        have hs5 : Snd g w (S4.set i (S4.getD i default ++ [(r, d, f)])) := ea ▸ f2.s.add hE
        have hl5 := hs5.len
        have ht5 := tot_set (S := S4) (i := i) (x := (r, d, f)) (by omega)
        repeat' first | ((first | refine Br.dec ?_ ?_ | refine Br.eqi ?_ ?_) <;> intro h <;> try (exfalso; omega)) | (simp (disch := first | omega | (simp only [vlen]; first | done | omega)) only [hself, vit, ↓vAq, vBq, ↓reduceIte, Nat.reduceBEq, Nat.reduceEqDiff, Nat.reduceLT, Nat.reduceLeDiff, Nat.reduceAdd, Nat.reduceMul, Nat.reduceSub, reduceCtorEq, Int.reduceToNat]) | (refine Br.mk ?_ ?_ <;> intro h) | (refine BrN.mk (fun h => ?_) ?_) | (refine AltVC.mk ?_ ?_)
        all_goals
          refine loopK.fold 6 2 i 0 true ?_
          repeat' first | ((first | refine Br.dec ?_ ?_ | refine Br.eqi ?_ ?_) <;> intro h <;> try (exfalso; omega)) | (simp (disch := first | omega | (simp only [vlen]; first | done | omega)) only [hself, vit, ↓vAq, vBq, ↓reduceIte, Nat.reduceBEq, Nat.reduceEqDiff, Nat.reduceLT, Nat.reduceLeDiff, Nat.reduceAdd, Nat.reduceMul, Nat.reduceSub, reduceCtorEq, Int.reduceToNat]) | (refine Br.mk ?_ ?_ <;> intro h) | (refine BrN.mk (fun h => ?_) ?_) | (refine AltVC.mk ?_ ?_)
          refine loopK.mk (f + 1, S4.set i (S4.getD i default ++ [(r, d, f)]), true) (by simp (disch := first | omega | (simp only [vlen]; first | done | omega)) only [vit, ↓vAq, vBq, ↓reduceIte, Nat.reduceBEq, Nat.reduceEqDiff, Nat.reduceLT, Nat.reduceLeDiff, Nat.reduceAdd, Nat.reduceMul, Nat.reduceSub, reduceCtorEq, Int.reduceToNat]) ⟨by show f + 1 ≤ _; omega, ⟨hs5, fun h => (by cases h), fun _ => (by show tot S0 < tot (S4.set i (S4.getD i default ++ [(r, d, f)])); have := f2.le; omega)⟩, fun _ => rfl, fun h => (by cases h)⟩ (by show _ - (f + 1) < _ - f; omega) ?_
          (simp (disch := first | omega | (simp only [vlen]; first | done | omega)) only [Fits_u, Fits_m, Fits_nil, List.length_append, hself, vit, ↓vAq, vBq, ↓reduceIte, Nat.reduceBEq, Nat.reduceEqDiff, Nat.reduceLT, Nat.reduceLeDiff, Nat.reduceAdd, Nat.reduceMul, Nat.reduceSub, reduceCtorEq, Int.reduceToNat] <;> (repeat' first | rfl | apply And.intro))
          all_goals trace_state
end Go.Proofs.Ytcbilnmpiladnaa

namespace Go.Proofs.Ytcbilnmpiladnaa
open Go.Dm
set_option linter.unusedSimpArgs false
set_option linter.unnecessarySimpa false
set_option linter.unusedVariables false
set_option linter.defProp false
theorem ic_of2 {g : Grammar} {w : List Int} (h : gwC g w = 0) : IC g w ∧ GW g w := by
  obtain ⟨h1, h2⟩ := gw_of h
  have hv := valid_of h1
  have hw : w.length ≤ 12 ∧ w.any (badSym g.k) = false := by
    unfold wcode at h2
    split at h2
    · cases h2
    · next h3 =>
      split at h2
      · cases h2
      · next h4 => exact ⟨by omega, by simpa using h4⟩
  refine ⟨⟨hv, hw.1⟩, fun i hi => ?_, fun r hr => (hv.left _ (getD_mem' hr)).1⟩
  have h5 := List.any_eq_false.1 hw.2 _ (getD_mem' (l := w) (i := i) hi)
  have h6 : w.getD i default = w.getD i 0 := rfl
  simp only [badSym, decide_eq_true_eq] at h5
  omega
def SetR (g : Grammar) (w : List Int) (d : D) : Prop := (gwC g w ≠ 0 ∧ d = .tu [.sl 1 [], iv .i64 (gwC g w)]) ∨ (gwC g w = 0 ∧ ∃ S, d = .tu [.sl 1 (tbl scS S), iv .i64 0] ∧ S.length = w.length + 1 ∧ ∀ i, Srt (S.getD i []) ∧ ∀ x, x ∈ S.getD i [] ↔ Ear g w i x)
theorem sq_rens {S : List (List It)} {i n τ : Nat} {f : Nat → Nat} : List.map (fun e => List.map (D.ren f) e) ((tbl scR S).set i [.ref τ 3 0 n]) = (tbl scR S).set i [.ref (f τ) 3 0 n] := by
  have e : ((fun e => List.map (D.ren f) e) ∘ scR) = scR := by funext l; simp [scR, D.ren, D.lf, renL]
  rw [List.map_set]
  simp only [tbl, List.map_map, e, List.map_cons, List.map_nil, show ∀ n, D.ren f (.ref τ 3 0 n) = .ref (f τ) 3 0 n from fun n => by simp [D.ren, D.lf, renL]]
def soO (L : List It) : Ob := ⟨3, tbl itD L, true, false, .arr⟩
def soR (S : List (List It)) (k n : Nat) : Ob := ⟨1, (tbl scR S).set k [.ref 1 3 0 n], false, true, .fix⟩
def So : Prop := ∀ (S : List (List It)) (k : Nat) (L : List It), k < S.length → L.Nodup → L.length ≤ 650 → Dm.SpecH Try.prog 64 [.ref 1 3 0 L.length, .clo 65 []] [soR S k L.length, soO L] (fun d o => d = .tu [] ∧ ∃ L', L'.Perm L ∧ Srt L' ∧ o = [some (soR S k L.length), some (soO L')])
set_option maxRecDepth 10000 in
set_option maxHeartbeats 4000000 in
theorem sets_spec (hso : So) (g : Grammar) (hg : g.ok) (w : List Int) (hw : w.length ≤ 9223372036854775807) : Dm.Spec Try.prog 26 [.ag (graD g), .sl 1 (i64s w)] (SetR g w) := by
  refine spec_of_vc mixed Try.func26 c26 (by rw [show Try.f26.ntmps = _ from Try.ntmps26]; simp) ?_
  unfold m26 r26
  have htc := tcheck_spec g hg w hw
  by_cases h0 : gwC g w = 0
  rotate_left
  · repeat' first | ((first | refine Br.dec ?_ ?_ | refine Br.eqi ?_ ?_) <;> intro h <;> try (exfalso; omega)) | (simp (disch := first | omega | (simp only [vlen]; first | done | omega)) only [graD_eq, vit, ↓vAq, vBq, ↓reduceIte, Nat.reduceBEq, Nat.reduceEqDiff, Nat.reduceLT, Nat.reduceLeDiff, Nat.reduceAdd, Nat.reduceMul, Nat.reduceSub, reduceCtorEq, Int.reduceToNat]) | (refine Br.mk ?_ ?_ <;> intro h) | (refine BrN.mk (fun h => ?_) ?_) | (refine AltVC.mk ?_ ?_)
    refine CallVC.eq htc ?_
    repeat' first | ((first | refine Br.dec ?_ ?_ | refine Br.eqi ?_ ?_) <;> intro h <;> try (exfalso; omega)) | (simp (disch := first | omega | (simp only [vlen]; first | done | omega)) only [graD_eq, vit, ↓vAq, vBq, ↓reduceIte, Nat.reduceBEq, Nat.reduceEqDiff, Nat.reduceLT, Nat.reduceLeDiff, Nat.reduceAdd, Nat.reduceMul, Nat.reduceSub, reduceCtorEq, Int.reduceToNat]) | (refine Br.mk ?_ ?_ <;> intro h) | (refine BrN.mk (fun h => ?_) ?_) | (refine AltVC.mk ?_ ?_)
    exact fin_mk (.inl ⟨h0, rfl⟩)
  · obtain ⟨hc, hgw⟩ := ic_of2 h0
    rw [h0] at htc
    have hbu := build_spec g w hc
    have hwl := hc.w
    repeat' first | ((first | refine Br.dec ?_ ?_ | refine Br.eqi ?_ ?_) <;> intro h <;> try (exfalso; omega)) | (simp (disch := first | omega | (simp only [vlen]; first | done | omega)) only [graD_eq, vit, ↓vAq, vBq, ↓reduceIte, Nat.reduceBEq, Nat.reduceEqDiff, Nat.reduceLT, Nat.reduceLeDiff, Nat.reduceAdd, Nat.reduceMul, Nat.reduceSub, reduceCtorEq, Int.reduceToNat]) | (refine Br.mk ?_ ?_ <;> intro h) | (refine BrN.mk (fun h => ?_) ?_) | (refine AltVC.mk ?_ ?_)
    refine CallVC.eq htc ?_
    repeat' first | ((first | refine Br.dec ?_ ?_ | refine Br.eqi ?_ ?_) <;> intro h <;> try (exfalso; omega)) | (simp (disch := first | omega | (simp only [vlen]; first | done | omega)) only [graD_eq, vit, ↓vAq, vBq, ↓reduceIte, Nat.reduceBEq, Nat.reduceEqDiff, Nat.reduceLT, Nat.reduceLeDiff, Nat.reduceAdd, Nat.reduceMul, Nat.reduceSub, reduceCtorEq, Int.reduceToNat]) | (refine Br.mk ?_ ?_ <;> intro h) | (refine BrN.mk (fun h => ?_) ?_) | (refine AltVC.mk ?_ ?_)
    refine CallVC.lendE [] [.ag (graD g), .sl 1 (i64s w)] [] hbu (by simp) (by rfl) (by simp (disch := first | omega | (simp only [vlen]; first | done | omega)) only [vle0, graD_eq, vit, ↓vAq, vBq, ↓reduceIte, Nat.reduceBEq, Nat.reduceEqDiff, Nat.reduceLT, Nat.reduceLeDiff, Nat.reduceAdd, Nat.reduceMul, Nat.reduceSub, reduceCtorEq, Int.reduceToNat] <;> (repeat' first | rfl | apply And.intro)) ?_
    rintro _ _ ⟨rfl, S, H, rfl, hS, hC⟩
    have hl := hS.len
    unfold buO
    repeat' first | ((first | refine Br.dec ?_ ?_ | refine Br.eqi ?_ ?_) <;> intro h <;> try (exfalso; omega)) | (simp (disch := first | omega | (simp only [vlen]; first | done | omega)) only [vit, ↓vAq, vBq, ↓reduceIte, Nat.reduceBEq, Nat.reduceEqDiff, Nat.reduceLT, Nat.reduceLeDiff, Nat.reduceAdd, Nat.reduceMul, Nat.reduceSub, reduceCtorEq, Int.reduceToNat]) | (refine Br.mk ?_ ?_ <;> intro h) | (refine BrN.mk (fun h => ?_) ?_) | (refine AltVC.mk ?_ ?_)
    refine LoopVC.mk (X := Nat × List (List It)) (fun z => [(24, iv .i64 z.1), (22, .ref 3 1 0 (w.length + 1)), (7, .ref 3 1 0 (w.length + 1))]) (fun z => [(3, ⟨1, tbl scR z.2, true, true, .fix⟩)]) (fun z => w.length + 1 - z.1)
      (fun z => z.1 ≤ w.length + 1 ∧ z.2.length = w.length + 1 ∧ ∀ j, (z.2.getD j []).Perm (S.getD j []) ∧ (j < z.1 → Srt (z.2.getD j []))) (0, S) ⟨Nat.zero_le _, hl, fun j => ⟨.refl _, fun h => absurd h (Nat.not_lt_zero _)⟩⟩ ?_ ?_
    · (simp (disch := first | omega | (simp only [vlen]; first | done | omega)) only [Fits_u, Fits_m, Fits_nil, List.length_append, hl, vit, ↓vAq, vBq, ↓reduceIte, Nat.reduceBEq, Nat.reduceEqDiff, Nat.reduceLT, Nat.reduceLeDiff, Nat.reduceAdd, Nat.reduceMul, Nat.reduceSub, reduceCtorEq, Int.reduceToNat] <;> (repeat' first | rfl | apply And.intro))
      all_goals trace_state
    rintro ⟨k, S1⟩ ⟨k1, k2, k3⟩
    simp only at k1 k2 k3 ⊢
    by_cases hk : k < w.length + 1
    rotate_left
    · have e : k = w.length + 1 := by omega
      subst e
      repeat' first | ((first | refine Br.dec ?_ ?_ | refine Br.eqi ?_ ?_) <;> intro h <;> try (exfalso; omega)) | (simp (disch := first | omega | (simp only [vlen]; first | done | omega)) only [hl, k2, vw_is, vit, ↓vAq, vBq, ↓reduceIte, Nat.reduceBEq, Nat.reduceEqDiff, Nat.reduceLT, Nat.reduceLeDiff, Nat.reduceAdd, Nat.reduceMul, Nat.reduceSub, reduceCtorEq, Int.reduceToNat]) | (refine Br.mk ?_ ?_ <;> intro h) | (refine BrN.mk (fun h => ?_) ?_) | (refine AltVC.mk ?_ ?_)
      refine fin_mk (.inr ⟨h0, S1, rfl, k2, fun i => ?_⟩)
      refine ⟨?_, fun x => (k3 i).1.mem_iff.trans ⟨fun hx => hS.ear i x hx, fun hx => hC.all hx⟩⟩
      by_cases e : i < w.length + 1
      · exact (k3 i).2 e
      · rw [show S1.getD i [] = [] by simp only [List.getD_eq_getElem?_getD]; rw [List.getElem?_eq_none_iff.2 (by omega)]; rfl]; exact List.Pairwise.nil
    have hnd : (S1.getD k default).Nodup := (k3 k).1.nodup_iff.2 (hS.nod k)
    have hsm : (S1.getD k default).length ≤ 650 := by
      have h1 := (k3 k).1.length_eq
      have h2 := hc.small hS k
      have h3 : (S1.getD k default).length = (S1.getD k []).length := rfl
      omega
    generalize hlk : S1.getD k default = L at *
    repeat' first | ((first | refine Br.dec ?_ ?_ | refine Br.eqi ?_ ?_) <;> intro h <;> try (exfalso; omega)) | (simp (disch := first | omega | (simp only [vlen]; first | done | omega)) only [hl, k2, hlk, vit, ↓vAq, vBq, ↓reduceIte, Nat.reduceBEq, Nat.reduceEqDiff, Nat.reduceLT, Nat.reduceLeDiff, Nat.reduceAdd, Nat.reduceMul, Nat.reduceSub, reduceCtorEq, Int.reduceToNat]) | (refine Br.mk ?_ ?_ <;> intro h) | (refine BrN.mk (fun h => ?_) ?_) | (refine AltVC.mk ?_ ?_)
    refine CallVC.lendE [3, 6] [.ref 1 3 0 L.length, .clo 65 []] [soR S1 k L.length, soO L] (hso S1 k L (by omega) hnd hsm) (by simp) (by rfl) (by unfold soO soR; simp (disch := first | omega | (simp only [vlen]; first | done | omega)) only [vle0, sq_rens, vit, ↓vAq, vBq, ↓reduceIte, Nat.reduceBEq, Nat.reduceEqDiff, Nat.reduceLT, Nat.reduceLeDiff, Nat.reduceAdd, Nat.reduceMul, Nat.reduceSub, reduceCtorEq, Int.reduceToNat] <;> (repeat' first | rfl | apply And.intro)) ?_
    rintro _ _ ⟨rfl, L', hp, hsr, rfl⟩
    have hle := hp.length_eq
    have htk : (tbl itD L').take L.length = tbl itD L' := List.take_of_length_le (by simp [tbl, hle])
    have hfo : ((tbl scR S1).set k [.own false 3 (tbl itD L')]) = tbl scR (S1.set k L') := sc_set
    unfold soO soR
    repeat' first | ((first | refine Br.dec ?_ ?_ | refine Br.eqi ?_ ?_) <;> intro h <;> try (exfalso; omega)) | (simp (disch := first | omega | (simp only [vlen]; first | done | omega)) only [hle, sq_rens, vit, ↓vAq, vBq, ↓reduceIte, Nat.reduceBEq, Nat.reduceEqDiff, Nat.reduceLT, Nat.reduceLeDiff, Nat.reduceAdd, Nat.reduceMul, Nat.reduceSub, reduceCtorEq, Int.reduceToNat]) | (refine Br.mk ?_ ?_ <;> intro h) | (refine BrN.mk (fun h => ?_) ?_) | (refine AltVC.mk ?_ ?_)
    refine loopK.fold 6 3 k 0 true ?_
    repeat' first | ((first | refine Br.dec ?_ ?_ | refine Br.eqi ?_ ?_) <;> intro h <;> try (exfalso; omega)) | (simp (disch := first | omega | (simp only [vlen]; first | done | omega)) only [hfo, hle, sq_rens, htk, hl, k2, vit, ↓vAq, vBq, ↓reduceIte, Nat.reduceBEq, Nat.reduceEqDiff, Nat.reduceLT, Nat.reduceLeDiff, Nat.reduceAdd, Nat.reduceMul, Nat.reduceSub, reduceCtorEq, Int.reduceToNat]) | (refine Br.mk ?_ ?_ <;> intro h) | (refine BrN.mk (fun h => ?_) ?_) | (refine AltVC.mk ?_ ?_)
    refine loopK.mk (k + 1, S1.set k L') (by simp (disch := first | omega | (simp only [vlen]; first | done | omega)) only [vit, ↓vAq, vBq, ↓reduceIte, Nat.reduceBEq, Nat.reduceEqDiff, Nat.reduceLT, Nat.reduceLeDiff, Nat.reduceAdd, Nat.reduceMul, Nat.reduceSub, reduceCtorEq, Int.reduceToNat]) ⟨by show k + 1 ≤ _; omega, by show (S1.set k L').length = _; rw [List.length_set]; exact k2, fun j => by
      show ((S1.set k L').getD j []).Perm (S.getD j []) ∧ (j < k + 1 → Srt ((S1.set k L').getD j []))
      rw [getD_set' (by omega)]
      by_cases e : j = k
      · subst e
        rw [if_pos rfl]
        have h1 := (k3 j).1
        rw [show S1.getD j [] = L from hlk] at h1
        exact ⟨hp.trans h1, fun _ => hsr⟩
      · rw [if_neg e]
        exact ⟨(k3 j).1, fun h => (k3 j).2 (by omega)⟩⟩ (by show _ - (k + 1) < _ - k; omega) ?_
    (simp (disch := first | omega | (simp only [vlen]; first | done | omega)) only [Fits_u, Fits_m, Fits_nil, List.length_append, hfo, sq_rens, hle, htk, hl, k2, vit, ↓vAq, vBq, ↓reduceIte, Nat.reduceBEq, Nat.reduceEqDiff, Nat.reduceLT, Nat.reduceLeDiff, Nat.reduceAdd, Nat.reduceMul, Nat.reduceSub, reduceCtorEq, Int.reduceToNat] <;> (repeat' first | rfl | apply And.intro))
    all_goals trace_state
end Go.Proofs.Ytcbilnmpiladnaa

namespace Go.Dm
open Go.RowKit Go.Lib Go.Shelf Go.Proofs
set_option linter.unusedSimpArgs false
set_option linter.unnecessarySimpa false
set_option linter.unusedVariables false
theorem HR.resetK {G : Gw} {w : World} {A : Nat → Prop} {β : Nat → Option Nat} {γ : Nat → Option (Nat × List Nat)} {N : Nat} {M : Nat → Option Ob} (g : HR G w A β γ N M) {τ b : Nat} {ob ob' : Ob} (hτ : τ < N) (hM : M τ = some ob) (hkd : ob'.kd = ob.kd) (hk : ob.kd.isMap = false) (hβ : β τ = some b) {arr arr' : Array Value} {T : TypeId} (hh : w.heap[b]? = some (.cells arr T (0, 0))) (hs : arr'.size = arr.size)
    (hl : ob'.es.length * ob'.sz ≤ arr.size) (he : ∀ i, i < ob'.es.length → (ob'.es.getD i []).length = ob'.sz) (how : ob'.ow = false → ∀ i j, i < ob'.es.length → j < ob'.sz → ((ob'.es.getD i []).getD j .junk).isOwn = false)
    (hr : ∀ i j, i < ob'.es.length → j < ob'.sz → CDR ob'.flat w A β γ N τ [i * ob'.sz + j] ((ob'.es.getD i []).getD j .junk) (arr'.getD (i * ob'.sz + j) undef)) : HR G (w.setRow b arr') A β γ N (fun σ => if σ = τ then some ob' else M σ) := by
  have hMn : M τ ≠ none := by rw [hM]; simp
  have hroot := g.root τ b hτ hMn hβ
  obtain ⟨_, hbA, hbO, _⟩ := g.own b τ [] hroot hτ hMn
  have hvis : Vis w (w.setRow b arr') := Vis.cells hh (setRow_heap w b arr arr' T (0, 0) hh) (fun c e => setRow_other w b c arr' e)
  have hA : ∀ c, A c → (w.setRow b arr').heap[c]? = w.heap[c]? := fun c hc => setRow_other w b c arr' (fun e => hbA (e ▸ hc))
  have hsh := Shp.setRow hh hs
  have hMs : ∀ σ, (fun σ => if σ = τ then some ob' else M σ) σ = if σ = τ then some ob' else M σ := fun _ => rfl
  have live : ∀ σ, (fun σ => if σ = τ then some ob' else M σ) σ ≠ none → M σ ≠ none := fun σ h => by
    rw [hMs] at h
    by_cases e : σ = τ
    · rw [e]; exact hMn
    · rwa [if_neg e] at h
  have hown : ∀ σ c π, π ≠ [] → γ c = some (σ, π) → (w.setRow b arr').heap[c]? = w.heap[c]? ∧ γ c = some (σ, π) := fun σ c π hp hc => ⟨setRow_other w b c arr' (fun e => by
    rw [e, hroot] at hc; simp only [Option.some.injEq, Prod.mk.injEq] at hc; exact hp hc.2.symm), hc⟩
  refine ⟨Bel.setRow g.below hbO arr' hsh, g.sub, g.up, fun c hc => by rw [setRow_size]; exact g.low c hc, fun σ ob hσ hm => ?_, fun c σ π h1 h2 h3 => let q := g.own c σ π h1 h2 (live σ h3); ⟨by rw [setRow_size]; exact q.1, q.2.1, q.2.2.1, hvis.noth q.1 q.2.2.2⟩, fun σ c h1 h2 h3 => g.root σ c h1 (live σ h2) h3, g.ge, g.flt, fun σ hF => ⟨(g.fixd σ hF).1, fun ob hm => ?_⟩⟩
  · (try rw [hMs] at hm)
    by_cases e : σ = τ
    · subst e
      rw [if_pos rfl] at hm; cases hm
      refine ⟨he, how, .inr ⟨b, _, fun i j => arr'.getD (i * ob'.sz + j) undef, hβ, setRow_heap w b arr arr' T (0, 0) hh, ?_, fun i j hi hj => (hr i j hi hj).mono (by simp) hA (fun _ h => h) hsh (Nat.le_refl _) (fun _ _ => rfl) (hown σ)⟩⟩
      rw [hkd]
      cases hkd2 : ob.kd with
      | map k ka va => rw [hkd2] at hk; cases hk
      | arr => exact ⟨arr', T, rfl, by omega, fun _ _ _ _ => rfl⟩
      | fix => exact ⟨arr', T, rfl, by omega, fun _ _ _ _ => rfl⟩
    · rw [if_neg e] at hm
      refine (g.objs σ ob hσ hm).mono hσ hA (fun _ h => h) hsh (Nat.le_refl _) (fun _ _ => rfl) (hown σ) (fun c hc => setRow_other w b c arr' ?_)
      rintro rfl
      have := g.root σ c hσ (by rw [hm]; simp) hc
      rw [hroot] at this; simp only [Option.some.injEq, Prod.mk.injEq] at this
      exact e this.1.symm
  · (try rw [hMs] at hm)
    by_cases e : σ = τ
    · subst e; rw [if_pos rfl] at hm; cases hm
      rw [hkd]; exact (g.fixd σ hF).2 _ hM
    · rw [if_neg e] at hm; exact (g.fixd σ hF).2 ob hm
section
variable {α : Type}
def vrw (enc : α → List Value) (l : List α) : List (List D) := l.map fun x => (enc x).map D.v
theorem vrw_len {enc : α → List Value} {l : List α} : (vrw enc l).length = l.length := by simp [vrw]
def vrO (enc : α → List Value) (k : Nat) (l : List α) : Ob := ⟨k, vrw enc l, true, false, .arr⟩
variable [Inhabited α]
theorem vrw_get {enc : α → List Value} {l : List α} {i : Nat} (h : i < l.length) : (vrw enc l).getD i [] = (enc l[i]!).map D.v := by simp [vrw, List.getD, h]
theorem vcl1 {l : List Value} {j : Nat} (h : j < l.length) : (l.map D.v).getD j .junk = .v l[j]! := by simp [List.getD, h]
theorem mapv_own {l : List Value} {j : Nat} : ((l.map D.v).getD j .junk).isOwn = false := by
  simp only [List.getD, List.getElem?_map]
  cases l[j]? <;> rfl
theorem clo_nil {w : World} {A : Nat → Prop} {β : Nat → Option Nat} {N f : Nat} {v : Value} (h : DR w A β N (.clo f []) v) : v = .func (.func f) #[] #[] := by
  cases h with
  | cl d x h =>
    cases h with
    | clo f ds cs hn hr =>
      obtain ⟨cs⟩ := cs
      have : cs = [] := List.eq_nil_of_length_eq_zero (by simpa using hn)
      rw [this]
  | clo f ds cs hn hr =>
    obtain ⟨cs⟩ := cs
    have : cs = [] := List.eq_nil_of_length_eq_zero (by simpa using hn)
    rw [this]
theorem belowK {w : World} {b n : Nat} {arr : Array Value} {T : TypeId} {F : Array Value} {os : Array Obj} (hh : w.heap[b]? = some (.cells arr T (0, 0))) : Below (w.setRow b (Go.Sort.putCells id 0 F arr)).heap.size (w.setRow b (Go.Sort.putCells id 0 F arr)) (Go.Sort.grow (Go.Sort.putRow id (Go.Sort.ahead w n) b 0 F) os) := by
  refine ⟨rfl, rfl, rfl, ?_, fun k hk => ?_⟩
  · show _ ≤ (Go.Sort.grow _ _).heap.size
    rw [Go.Sort.size_grow, Go.Sort.size_putRow, setRow_size]
    exact Nat.le_add_right _ _
  · rw [setRow_size] at hk
    show (Go.Sort.grow _ _).heap[k]? = _
    rw [Go.Sort.heap_grow_old _ _ (by rw [Go.Sort.size_putRow]; exact hk)]
    by_cases e : k = b
    · subst e
      rw [setRow_heap w k arr _ T (0, 0) hh]
      simp [Go.Sort.putRow, Go.Sort.mapBlock, Go.Sort.ahead, Array.getElem?_modify, hh, Go.Sort.onCells]
    · rw [setRow_other w b k _ e]
      simp [Go.Sort.putRow, Go.Sort.mapBlock, Go.Sort.ahead, Array.getElem?_modify, Ne.symm e]
theorem sorted_of {lt : α → α → Bool} {d' : Array α} (h : Go.Sort.SortedIn lt 0 d'.size d') : d'.toList.Pairwise fun x y => lt y x = false := by
  rw [List.pairwise_iff_getElem]
  intro i j hi hj hij
  have hj' : j < d'.size := by simpa using hj
  have hi' : i < d'.size := by omega
  have := h i j (Nat.zero_le _) hij hj'
  rw [getElem!_pos d' j hj', getElem!_pos d' i hi'] at this
  simpa using this
set_option maxHeartbeats 1000000 in
theorem sortK_spec {P : Program} {ρ : Ren} (L : SlLaysF0.n6 P ρ) (hF : FnOk P (ρ.f 6)) {k : Nat} (k0 : 0 < k) (aE : ∀ w, (isAgg (ρ.t 24)).run P w = .ok true w) (zE : ∀ w, (Go.sizeOf (ρ.t 24)).run P w = .ok k w) {enc : α → List Value} (hk : ∀ x, (enc x).length = k) (h1 : ∀ x, ∀ v ∈ enc x, v.oneCell' = true)
    {cf : α → α → Int} (hO : Go.Sort.SWO (ltOf cf)) {g : FuncId} (eg : ∀ args w, (callFunc g args).run P w = .ok (.enter g args) w)
    (hcmp : ∀ x y W, Calls P g #[.agg (enc x).toArray, .agg (enc y).toArray] W fun e w' => e = .returned (.int .i64 (cf x y)) ∧ ∃ q os', w' = Go.Sort.grow (W.drewN q) os')
    (M0 : Ob) (l : List α) (hl : l.length ≤ 100000000) : Dm.SpecH P (ρ.f 6) [.ref 1 k 0 l.length, .clo g []] [M0, vrO enc k l] (fun d o => d = .tu [] ∧ ∃ l', l'.Perm l ∧ (l'.Pairwise fun x y => ltOf cf y x = false) ∧ o = [some M0, some (vrO enc k l')]) := by
  refine ⟨hF, fun w A β γ vs hH hvs hdr => ?_⟩
  obtain ⟨v0, v1, rfl⟩ : ∃ v0 v1, vs = #[v0, v1] := by
    obtain ⟨vs⟩ := vs
    match vs, hvs with
    | [x, y], _ => exact ⟨x, y, rfl⟩
  have h0 : DR w A β 2 (.ref 1 k 0 l.length) v0 := hdr 0 (by simp)
  have hv1 : DR w A β 2 (.clo g []) v1 := hdr 1 (by simp)
  clear hdr hvs
  have ev1 := clo_nil hv1
  subst ev1
  clear hv1
  have hend : ∀ l', l'.Perm l → (l'.Pairwise fun x y => ltOf cf y x = false) → ∀ w', HR (Gw.at w A β γ 2 (mAll [M0, vrO enc k l])) w' A β γ 2 (mOf [some M0, some (vrO enc k l')]) → ∃ x d o A' β' γ', Ending.returned (.tuple #[]) = Ending.returned x ∧ (d = .tu [] ∧ ∃ l', l'.Perm l ∧ (l'.Pairwise fun x y => ltOf cf y x = false) ∧ o = [some M0, some (vrO enc k l')]) ∧ HR (Gw.at w A β γ 2 (mAll [M0, vrO enc k l])) w' A' β' γ' o.length (mOf o) ∧ DR w' A' β' o.length d x :=
    fun l' hp hs w' h => ⟨_, .tu [], [some M0, some (vrO enc k l')], A, β, γ, rfl, ⟨rfl, l', hp, hs, rfl⟩, h, .cl _ _ (.tu [] #[] rfl fun i hi => by simp at hi)⟩
  by_cases hne : l = []
  · subst hne
    obtain ⟨p, c, rfl⟩ : ∃ p c, v0 = .slice p 0 c := by
      cases h0 with
      | cl d x h => cases h
      | ref τ sz off n c b arr T hN hb hc hh hr => exact ⟨_, _, rfl⟩
      | refz τ sz off b hN => exact ⟨_, _, rfl⟩
    have hcon := AnyF.slices_SortFunc_none L p c (.func (.func g) #[] #[]) w
    refine hcon.mono ?_
    rintro e w' ⟨rfl, rfl⟩
    exact hend [] (.refl _) .nil _ hH
  · have hn0 : 0 < l.length := List.length_pos_iff.2 hne
    obtain ⟨b1, c1, rfl, hβ1, hc1⟩ : ∃ b1 c1, v0 = .slice (some ⟨b1, 0, none⟩) l.length c1 ∧ β 1 = some b1 ∧ l.length ≤ c1 := by
      generalize hm : l.length = m at h0 hn0
      cases h0 with
      | cl d x h => cases h
      | ref τ sz off n c b arr T hN hb hc hh hr => exact ⟨b, c, by simp, hb, hc⟩
      | refz τ sz off b hN => omega
    obtain ⟨arr, T, hh, hs, hcd⟩ := hH.cells (τ := 1) (ob := vrO enc k l) (by simp) rfl rfl hβ1
    have hs : l.length * k ≤ arr.size := by
      have : (vrw enc l).length * k ≤ arr.size := hs
      rwa [vrw_len] at this
    obtain ⟨hb1s, hb1A, _⟩ := hH.blk (τ := 1) (by simp) (by intro h; cases h) hβ1
    have hsza : l.toArray.size = l.length := by simp
    have hval : ∀ i j, i < l.length → j < k → arr.getD (i * k + j) undef = (enc l[i]!)[j]! := fun i j hi hj => by
      have hD : (((vrO enc k l).es.getD i []).getD j .junk) = .v (enc l[i]!)[j]! := by
        show ((vrw enc l).getD i []).getD j .junk = _
        rw [vrw_get hi, vcl1 (by rw [hk]; exact hj)]
      have h := (hcd i j (by show i < (vrw enc l).length; rw [vrw_len]; exact hi) hj).1 (by rw [hD]; rfl)
      rw [hD] at h
      have h2 : CR w A (.v (enc l[i]!)[j]!) (arr.getD (i * k + j) undef) := h.toC (by unfold D.cl; rw [alls_leaf rfl]; rfl)
      generalize arr.getD (i * k + j) undef = z at h2
      cases h2; rfl
    have hHold : Go.Sort.HoldsK enc k w b1 0 l.toArray := fun t ht => by
      rw [Go.Sort.size_flatK, hsza] at ht
      have hta : t < arr.size := Nat.lt_of_lt_of_le ht hs
      have hi : t / k < l.length := (Nat.div_lt_iff_lt_mul k0).2 ht
      have hj : t % k < k := Nat.mod_lt _ k0
      have he : t / k * k + t % k = t := by rw [Nat.mul_comm]; exact Nat.div_add_mod t k
      constructor
      · have h := hval (t / k) (t % k) hi hj
        rw [he] at h
        rw [Go.Sort.get_flatK _ _ _ _ (by rw [hsza]; exact ht)]
        have e2 : l.toArray[t / k]! = l[t / k]! := by simp
        rw [e2]
        have e3 : arr[t]? = some ((enc l[t / k]!)[t % k]!) := by
          rw [Array.getElem?_eq_getElem hta, ← h]; simp [Array.getD, hta]
        simp only [World.cell?, hh, Option.isSome_none, Bool.false_eq_true, if_false, Nat.zero_add]
        rw [e3]; rfl
      · simp [World.frozen?, hh]
    have hcon := AnyQ.slices_SortFunc L k aE zE enc hk h1 cf hO g #[] b1 0 c1 l.toArray w eg (fun m os dk hdk x y => hcmp x y _) hHold hb1s (by rw [hsza]; omega)
    rw [hsza] at hcon
    refine hcon.mono ?_
    rintro e w' ⟨rfl, d', m, os, hp, hsr, rfl⟩
    obtain ⟨p1, _, p3⟩ := hp
    rw [hsza] at p1
    have hperm : d'.toList.Perm l := by
      have e1 : d'.extract 0 l.length = d' := by rw [← p1]; simp
      rw [e1] at p3
      simpa using p3
    have hsrt : d'.toList.Pairwise fun x y => ltOf cf y x = false := sorted_of (by rw [p1]; exact hsr)
    refine hend d'.toList hperm hsrt _ ?_
    have hdl : d'.toList.length = l.length := by simpa using p1
    have hW := HR.resetK hH (τ := 1) (ob := vrO enc k l) (ob' := vrO enc k d'.toList) (by simp) rfl rfl rfl hβ1 hh (arr' := Go.Sort.putCells id 0 (Go.Sort.flatK enc k d') arr) (by simp [Go.Sort.putCells]) (by show (vrw enc d'.toList).length * k ≤ _; rw [vrw_len, hdl]; exact hs)
      (fun i hi => by
        have hi : i < (vrw enc d'.toList).length := hi
        rw [vrw_len] at hi
        show ((vrw enc d'.toList).getD i []).length = k
        rw [vrw_get hi, List.length_map, hk])
      (fun _ i j hi hj => by
        have hi : i < (vrw enc d'.toList).length := hi
        rw [vrw_len] at hi
        show (((vrw enc d'.toList).getD i []).getD j .junk).isOwn = false
        rw [vrw_get hi]; exact mapv_own)
      (fun i j hi hj => by
        have hi : i < (vrw enc d'.toList).length := hi
        have hj : j < k := hj
        rw [vrw_len] at hi
        have hi2 : i < d'.size := by simpa using hi
        have hlt : i * k + j < d'.size * k := by
          have := Nat.mul_le_mul_right k (show i + 1 ≤ d'.size from hi2)
          rw [Nat.succ_mul] at this; omega
        have hD : (((vrO enc k d'.toList).es.getD i []).getD j .junk) = .v (enc d'.toList[i]!)[j]! := by
          show ((vrw enc d'.toList).getD i []).getD j .junk = _
          rw [vrw_get hi, vcl1 (by rw [hk]; exact hj)]
        have hia : i * k + j < arr.size := by rw [p1] at hlt; omega
        have e1 : (Go.Sort.putCells id 0 (Go.Sort.flatK enc k d') arr).getD (i * k + j) undef = (enc d'.toList[i]!)[j]! := by
          have e4 : (i * k + j) / k = i := by rw [Nat.mul_comm, Nat.mul_add_div k0, Nat.div_eq_of_lt hj]; rfl
          have e5 : (i * k + j) % k = j := by rw [Nat.mul_comm, Nat.mul_add_mod]; exact Nat.mod_eq_of_lt hj
          have e6 := Go.Sort.get_flatK enc k d' (i * k + j) hlt
          rw [e4, e5] at e6
          have e7 : d'[i]! = d'.toList[i]! := by rw [getElem!_pos d' i hi2, getElem!_pos d'.toList i hi]; simp
          rw [e7] at e6
          rw [← e6]
          simp [Go.Sort.putCells, Array.getD, hia, hlt]
        rw [hD]
        show CDR _ _ _ _ _ _ _ _ _ ((Go.Sort.putCells id 0 (Go.Sort.flatK enc k d') arr).getD (i * k + j) undef)
        rw [e1]
        exact ⟨fun _ => .cl _ _ (.v _), fun _ => .cr _ _ _ (.v _), h1 _ _ (by rw [getElem!_pos _ j (by rw [hk]; exact hj)]; exact List.getElem_mem _)⟩)
    have hW2 := HR.world hW (belowK (n := m) (F := Go.Sort.flatK enc k d') (os := os) hh)
    refine HR.sub_ hW2 fun τ ob h => ?_
    match τ with
    | 0 => exact h
    | 1 => exact h
    | τ + 2 => simp [mOf] at h
end
end Go.Dm

namespace Go.Proofs.Ytcbilnmpiladnaa
open Go.RowKit Go.Dm Go.Lib Go.Shelf
set_option linter.unusedSimpArgs false
set_option linter.unnecessarySimpa false
set_option linter.unusedVariables false
def encIt (x : It) : List Value := [.int .i64 x.1, .int .i64 x.2.1, .int .i64 x.2.2]
theorem icmp_lt2 (x y : It) : ltOf (fun x y : It => icmp x y) x y = ilt x y := by
  unfold ltOf
  rw [Bool.eq_iff_iff, decide_eq_true_eq]
  exact icmp_lt
theorem icmp_swo : Go.Sort.SWO (ltOf fun x y : It => icmp x y) where
  irrefl x := by rw [icmp_lt2]; exact ilt_irr
  trans x y z h1 h2 := by rw [icmp_lt2] at *; exact ilt_trans h1 h2
  ntrans x y z h1 h2 := by
    rw [icmp_lt2] at *
    rw [Bool.eq_false_iff] at *
    intro h3
    by_cases e : x = y
    · subst e; exact h2 h3
    · rcases ilt_tri e with h | h
      · exact h1 h
      · exact h2 (ilt_trans h h3)
theorem vrO_it {L : List It} : vrO encIt 3 L = soO L := by
  unfold vrO soO
  congr 1
theorem so_items : So := fun S k L hk hnd hL => by
  have h := sortK_spec (P := Try.prog) (ρ := sortT_ren) sortT ⟨_, Try.func64, by kernel_rfl, by kernel_rfl⟩ (k := 3) (by omega) Try.isAgg120 Try.sizeOf120 (enc := encIt) (fun _ => rfl)
    (fun x v hv => by simp [encIt] at hv; rcases hv with rfl | rfl | rfl <;> rfl) (cf := fun x y => icmp x y) icmp_swo (g := 65) (enters_of Try.func65 (by kernel_rfl) rfl) (fun x y W => icmp_run x y W) (soR S k L.length) L (by omega)
  rw [vrO_it] at h
  refine ⟨h.1, fun w A β γ vs a1 a2 a3 => (h.2 w A β γ vs a1 a2 a3).mono ?_⟩
  rintro e w' ⟨x, d, o, A', β', γ', b1, ⟨h1, L', h2, h3, h4⟩, b3⟩
  refine ⟨x, d, o, A', β', γ', b1, ?_, b3⟩
  refine ⟨h1, L', h2, ?_, by rw [h4, vrO_it]⟩
  have hn : L'.Nodup := h2.nodup_iff.2 hnd
  refine (h3.and hn).imp fun {x y} hxy => ?_
  have h5 := hxy.1
  rw [icmp_lt2] at h5
  rcases ilt_tri hxy.2 with h | h
  · exact h
  · rw [h5] at h; cases h
end Go.Proofs.Ytcbilnmpiladnaa

namespace Go.Proofs.Ytcbilnmpiladnaa
open Go.Dm
set_option linter.unusedSimpArgs false
set_option linter.unnecessarySimpa false
set_option linter.unusedVariables false
set_option linter.defProp false
set_option maxRecDepth 10000 in
set_option maxHeartbeats 4000000 in
theorem isame_spec (A : List (List It)) (hA : A.length ≤ 100000) (hl : ∀ l, l ∈ A → l.length ≤ 100000 ∧ ∀ x, x ∈ l → SmI x) : Dm.Spec Try.prog 28 [.sl 1 (tbl scS A), .sl 1 (tbl scS A)] (· = .v (.bool true)) := by
  refine spec_of_vc mixed Try.func28 c28 (by rw [show Try.f28.ntmps = _ from Try.ntmps28]; simp) ?_
  unfold m28 r28
  repeat' first | ((first | refine Br.dec ?_ ?_ | refine Br.eqi ?_ ?_) <;> intro h <;> try (exfalso; omega)) | (simp (disch := first | omega | (simp only [vlen]; first | done | omega)) only [vis, ↓vAq, vBq, ↓reduceIte, Nat.reduceBEq, Nat.reduceEqDiff, Nat.reduceLT, Nat.reduceLeDiff, Nat.reduceAdd, Nat.reduceMul, Nat.reduceSub, reduceCtorEq, Int.reduceToNat]) | (refine Br.mk ?_ ?_ <;> intro h) | (refine BrN.mk (fun h => ?_) ?_) | (refine AltVC.mk ?_ ?_)
  refine LoopVC.mk (X := Nat) (fun i => [(5, iv .i64 i)]) (fun _ => []) (fun i => A.length - i) (fun i => i ≤ A.length) 0 (Nat.zero_le _) ?_ ?_
  · (simp (disch := first | omega | (simp only [vlen]; first | done | omega)) only [Fits_u, Fits_m, Fits_nil, List.length_append, vis, ↓vAq, vBq, ↓reduceIte, Nat.reduceBEq, Nat.reduceEqDiff, Nat.reduceLT, Nat.reduceLeDiff, Nat.reduceAdd, Nat.reduceMul, Nat.reduceSub, reduceCtorEq, Int.reduceToNat] <;> (repeat' first | rfl | apply And.intro))
    all_goals trace_state
  intro i hi
  by_cases hlt : i < A.length
  · obtain ⟨l1, l2⟩ := hl _ (getD_mem' hlt)
    generalize hL : A.getD i default = L at *
    repeat' first | ((first | refine Br.dec ?_ ?_ | refine Br.eqi ?_ ?_) <;> intro h <;> try (exfalso; omega)) | (simp (disch := first | omega | (simp only [vlen]; first | done | omega)) only [hL, vis, ↓vAq, vBq, ↓reduceIte, Nat.reduceBEq, Nat.reduceEqDiff, Nat.reduceLT, Nat.reduceLeDiff, Nat.reduceAdd, Nat.reduceMul, Nat.reduceSub, reduceCtorEq, Int.reduceToNat]) | (refine Br.mk ?_ ?_ <;> intro h) | (refine BrN.mk (fun h => ?_) ?_) | (refine AltVC.mk ?_ ?_)
    refine LoopVC.mk (X := Nat) (fun k => [(6, iv .i64 k)]) (fun _ => []) (fun k => L.length - k) (fun k => k ≤ L.length) 0 (Nat.zero_le _) ?_ ?_
    · (simp (disch := first | omega | (simp only [vlen]; first | done | omega)) only [Fits_u, Fits_m, Fits_nil, List.length_append, vis, ↓vAq, vBq, ↓reduceIte, Nat.reduceBEq, Nat.reduceEqDiff, Nat.reduceLT, Nat.reduceLeDiff, Nat.reduceAdd, Nat.reduceMul, Nat.reduceSub, reduceCtorEq, Int.reduceToNat] <;> (repeat' first | rfl | apply And.intro))
      all_goals trace_state
    intro k hk
    by_cases hkl : k < L.length
    · obtain ⟨b1, b2, b3⟩ := l2 _ (getD_mem' hkl)
      generalize hx : L.getD k default = x at *
      repeat' first | ((first | refine Br.dec ?_ ?_ | refine Br.eqi ?_ ?_) <;> intro h <;> try (exfalso; omega)) | (simp (disch := first | omega | (simp only [vlen]; first | done | omega)) only [hL, hx, vis, ↓vAq, vBq, ↓reduceIte, Nat.reduceBEq, Nat.reduceEqDiff, Nat.reduceLT, Nat.reduceLeDiff, Nat.reduceAdd, Nat.reduceMul, Nat.reduceSub, reduceCtorEq, Int.reduceToNat]) | (refine Br.mk ?_ ?_ <;> intro h) | (refine BrN.mk (fun h => ?_) ?_) | (refine AltVC.mk ?_ ?_)
      refine BrE.mk (fun h => ?_) (fun h => absurd (by simp) h)
      repeat' first | ((first | refine Br.dec ?_ ?_ | refine Br.eqi ?_ ?_) <;> intro h <;> try (exfalso; omega)) | (simp (disch := first | omega | (simp only [vlen]; first | done | omega)) only [hL, hx, vis, ↓vAq, vBq, ↓reduceIte, Nat.reduceBEq, Nat.reduceEqDiff, Nat.reduceLT, Nat.reduceLeDiff, Nat.reduceAdd, Nat.reduceMul, Nat.reduceSub, reduceCtorEq, Int.reduceToNat]) | (refine Br.mk ?_ ?_ <;> intro h) | (refine BrN.mk (fun h => ?_) ?_) | (refine AltVC.mk ?_ ?_)
      refine loopK.mk (k + 1) (by simp (disch := first | omega | (simp only [vlen]; first | done | omega)) only [vis, ↓vAq, vBq, ↓reduceIte, Nat.reduceBEq, Nat.reduceEqDiff, Nat.reduceLT, Nat.reduceLeDiff, Nat.reduceAdd, Nat.reduceMul, Nat.reduceSub, reduceCtorEq, Int.reduceToNat]) (by show k + 1 ≤ _; omega) (by show _ - (k + 1) < _ - k; omega) ?_
      (simp (disch := first | omega | (simp only [vlen]; first | done | omega)) only [Fits_u, Fits_m, Fits_nil, List.length_append, vis, ↓vAq, vBq, ↓reduceIte, Nat.reduceBEq, Nat.reduceEqDiff, Nat.reduceLT, Nat.reduceLeDiff, Nat.reduceAdd, Nat.reduceMul, Nat.reduceSub, reduceCtorEq, Int.reduceToNat] <;> (repeat' first | rfl | apply And.intro))
      all_goals trace_state
    · repeat' first | ((first | refine Br.dec ?_ ?_ | refine Br.eqi ?_ ?_) <;> intro h <;> try (exfalso; omega)) | (simp (disch := first | omega | (simp only [vlen]; first | done | omega)) only [hL, vis, ↓vAq, vBq, ↓reduceIte, Nat.reduceBEq, Nat.reduceEqDiff, Nat.reduceLT, Nat.reduceLeDiff, Nat.reduceAdd, Nat.reduceMul, Nat.reduceSub, reduceCtorEq, Int.reduceToNat]) | (refine Br.mk ?_ ?_ <;> intro h) | (refine BrN.mk (fun h => ?_) ?_) | (refine AltVC.mk ?_ ?_)
      refine loopK.mk (i + 1) (by simp (disch := first | omega | (simp only [vlen]; first | done | omega)) only [vis, ↓vAq, vBq, ↓reduceIte, Nat.reduceBEq, Nat.reduceEqDiff, Nat.reduceLT, Nat.reduceLeDiff, Nat.reduceAdd, Nat.reduceMul, Nat.reduceSub, reduceCtorEq, Int.reduceToNat]) (by show i + 1 ≤ _; omega) (by show _ - (i + 1) < _ - i; omega) ?_
      (simp (disch := first | omega | (simp only [vlen]; first | done | omega)) only [Fits_u, Fits_m, Fits_nil, List.length_append, vis, ↓vAq, vBq, ↓reduceIte, Nat.reduceBEq, Nat.reduceEqDiff, Nat.reduceLT, Nat.reduceLeDiff, Nat.reduceAdd, Nat.reduceMul, Nat.reduceSub, reduceCtorEq, Int.reduceToNat] <;> (repeat' first | rfl | apply And.intro))
      all_goals trace_state
  · repeat' first | ((first | refine Br.dec ?_ ?_ | refine Br.eqi ?_ ?_) <;> intro h <;> try (exfalso; omega)) | (simp (disch := first | omega | (simp only [vlen]; first | done | omega)) only [vis, ↓vAq, vBq, ↓reduceIte, Nat.reduceBEq, Nat.reduceEqDiff, Nat.reduceLT, Nat.reduceLeDiff, Nat.reduceAdd, Nat.reduceMul, Nat.reduceSub, reduceCtorEq, Int.reduceToNat]) | (refine Br.mk ?_ ?_ <;> intro h) | (refine BrN.mk (fun h => ?_) ?_) | (refine AltVC.mk ?_ ?_)
    exact fin_mk rfl
end Go.Proofs.Ytcbilnmpiladnaa

namespace Go.Proofs.Ytcbilnmpiladnaa
open Go.Dm
set_option linter.unusedSimpArgs false
set_option linter.unnecessarySimpa false
set_option linter.unusedVariables false
set_option linter.defProp false
theorem sets_same {g : Grammar} {w : List Int} {S T : List (List It)} (h1 : S.length = w.length + 1) (h2 : ∀ i, Srt (S.getD i []) ∧ ∀ x, x ∈ S.getD i [] ↔ Ear g w i x) (h3 : T.length = w.length + 1) (h4 : ∀ i, Srt (T.getD i []) ∧ ∀ x, x ∈ T.getD i [] ↔ Ear g w i x) : S = T := by
  apply List.ext_getElem (by omega)
  intro i hi hj
  have e := Srt.uniq (h2 i).1 (h4 i).1 fun x => ((h2 i).2 x).trans ((h4 i).2 x).symm
  simpa [List.getD_eq_getElem?_getD, hi, hj] using e
theorem sets_small {g : Grammar} {w : List Int} (hc : IC g w) {S : List (List It)} (h1 : S.length = w.length + 1) (h2 : ∀ i, Srt (S.getD i []) ∧ ∀ x, x ∈ S.getD i [] ↔ Ear g w i x) : ∀ l, l ∈ S → l.length ≤ 100000 ∧ ∀ x, x ∈ l → SmI x := fun l hl => by
  have hS : Snd g w S := ⟨h1, fun i x hx => ((h2 i).2 x).1 hx, fun i => (h2 i).1.imp fun {a b} h e => by rw [e, ilt_irr] at h; cases h⟩
  obtain ⟨i, hi, e⟩ := List.mem_iff_getElem.1 hl
  have e2 : S.getD i [] = l := by simp [List.getD_eq_getElem?_getD, hi, e]
  have h3 := hc.small hS i
  rw [e2] at h3
  exact ⟨by omega, fun x hx => Wi.smI hc (hS.ear i x (by rw [e2]; exact hx)).wi⟩
set_option maxRecDepth 10000 in
set_option maxHeartbeats 4000000 in
theorem itemsTells_of (hso : So) (g : Grammar) (hg : g.ok) (w : List Int) (hw : okL ok64 w) : Dm.Spec Try.prog 8 [.ag (graD g), .sl 1 (i64s w)] (· = .v (.bool true)) := by
  refine spec_of_vc mixed Try.func8 c8 (by rw [show Try.f8.ntmps = _ from Try.ntmps8]; simp) ?_
  unfold m8 r8
  have hwl := maxLen_le hw.1
  have hq := wordOf_spec g hg w hwl
  repeat' first | ((first | refine Br.dec ?_ ?_ | refine Br.eqi ?_ ?_) <;> intro h <;> try (exfalso; omega)) | (simp (disch := first | omega | (simp only [vlen]; first | done | omega)) only [graD_eq, vit, ↓vAq, vBq, ↓reduceIte, Nat.reduceBEq, Nat.reduceEqDiff, Nat.reduceLT, Nat.reduceLeDiff, Nat.reduceAdd, Nat.reduceMul, Nat.reduceSub, reduceCtorEq, Int.reduceToNat]) | (refine Br.mk ?_ ?_ <;> intro h) | (refine BrN.mk (fun h => ?_) ?_) | (refine AltVC.mk ?_ ?_)
  refine CallVC.mk (sets_spec hso g hg w hwl) ?_
  rintro _ (⟨h0, rfl⟩ | ⟨h0, S, rfl, s1, s2⟩)
  · repeat' first | ((first | refine Br.dec ?_ ?_ | refine Br.eqi ?_ ?_) <;> intro h <;> try (exfalso; omega)) | (simp (disch := first | omega | (simp only [vlen]; first | done | omega)) only [graD_eq, vit, ↓vAq, vBq, ↓reduceIte, Nat.reduceBEq, Nat.reduceEqDiff, Nat.reduceLT, Nat.reduceLeDiff, Nat.reduceAdd, Nat.reduceMul, Nat.reduceSub, reduceCtorEq, Int.reduceToNat]) | (refine Br.mk ?_ ?_ <;> intro h) | (refine BrN.mk (fun h => ?_) ?_) | (refine AltVC.mk ?_ ?_)
    refine CallVC.eq hq ?_
    repeat' first | ((first | refine Br.dec ?_ ?_ | refine Br.eqi ?_ ?_) <;> intro h <;> try (exfalso; omega)) | (simp (disch := first | omega | (simp only [vlen]; first | done | omega)) only [graD_eq, vit, ↓vAq, vBq, ↓reduceIte, Nat.reduceBEq, Nat.reduceEqDiff, Nat.reduceLT, Nat.reduceLeDiff, Nat.reduceAdd, Nat.reduceMul, Nat.reduceSub, reduceCtorEq, Int.reduceToNat]) | (refine Br.mk ?_ ?_ <;> intro h) | (refine BrN.mk (fun h => ?_) ?_) | (refine AltVC.mk ?_ ?_)
    all_goals first | exact fin_mk rfl | exact fin_mk (vbEq (by simp)) | trace_state
  · obtain ⟨hc, hgw⟩ := ic_of2 h0
    rw [h0] at hq
    repeat' first | ((first | refine Br.dec ?_ ?_ | refine Br.eqi ?_ ?_) <;> intro h <;> try (exfalso; omega)) | (simp (disch := first | omega | (simp only [vlen]; first | done | omega)) only [graD_eq, vit, ↓vAq, vBq, ↓reduceIte, Nat.reduceBEq, Nat.reduceEqDiff, Nat.reduceLT, Nat.reduceLeDiff, Nat.reduceAdd, Nat.reduceMul, Nat.reduceSub, reduceCtorEq, Int.reduceToNat]) | (refine Br.mk ?_ ?_ <;> intro h) | (refine BrN.mk (fun h => ?_) ?_) | (refine AltVC.mk ?_ ?_)
    refine CallVC.eq hq ?_
    repeat' first | ((first | refine Br.dec ?_ ?_ | refine Br.eqi ?_ ?_) <;> intro h <;> try (exfalso; omega)) | (simp (disch := first | omega | (simp only [vlen]; first | done | omega)) only [graD_eq, vit, ↓vAq, vBq, ↓reduceIte, Nat.reduceBEq, Nat.reduceEqDiff, Nat.reduceLT, Nat.reduceLeDiff, Nat.reduceAdd, Nat.reduceMul, Nat.reduceSub, reduceCtorEq, Int.reduceToNat]) | (refine Br.mk ?_ ?_ <;> intro h) | (refine BrN.mk (fun h => ?_) ?_) | (refine AltVC.mk ?_ ?_)
    refine CallVC.mk (isets_spec g w hc hgw) ?_
    rintro _ ⟨T, rfl, t1, t2⟩
    have e := sets_same s1 s2 t1 t2
    subst e
    have hwl2 := hc.w
    have his := isame_spec S (by omega) (sets_small hc s1 s2)
    repeat' first | ((first | refine Br.dec ?_ ?_ | refine Br.eqi ?_ ?_) <;> intro h <;> try (exfalso; omega)) | (simp (disch := first | omega | (simp only [vlen]; first | done | omega)) only [graD_eq, vit, ↓vAq, vBq, ↓reduceIte, Nat.reduceBEq, Nat.reduceEqDiff, Nat.reduceLT, Nat.reduceLeDiff, Nat.reduceAdd, Nat.reduceMul, Nat.reduceSub, reduceCtorEq, Int.reduceToNat]) | (refine Br.mk ?_ ?_ <;> intro h) | (refine BrN.mk (fun h => ?_) ?_) | (refine AltVC.mk ?_ ?_)
    refine CallVC.eq his ?_
    repeat' first | ((first | refine Br.dec ?_ ?_ | refine Br.eqi ?_ ?_) <;> intro h <;> try (exfalso; omega)) | (simp (disch := first | omega | (simp only [vlen]; first | done | omega)) only [graD_eq, vit, ↓vAq, vBq, ↓reduceIte, Nat.reduceBEq, Nat.reduceEqDiff, Nat.reduceLT, Nat.reduceLeDiff, Nat.reduceAdd, Nat.reduceMul, Nat.reduceSub, reduceCtorEq, Int.reduceToNat]) | (refine Br.mk ?_ ?_ <;> intro h) | (refine BrN.mk (fun h => ?_) ?_) | (refine AltVC.mk ?_ ?_)
    all_goals first | exact fin_mk rfl | exact fin_mk (vbEq (by simp)) | trace_state
end Go.Proofs.Ytcbilnmpiladnaa

namespace Go.Proofs.Ytcbilnmpiladnaa
open Go.Dm
theorem itemsTells_spec (g : Grammar) (hg : g.ok) (w : List Int) (hw : okL ok64 w) : Dm.Spec Try.prog 8 [.ag (graD g), .sl 1 (i64s w)] (· = .v (.bool true)) := itemsTells_of so_items g hg w hw
end Go.Proofs.Ytcbilnmpiladnaa
