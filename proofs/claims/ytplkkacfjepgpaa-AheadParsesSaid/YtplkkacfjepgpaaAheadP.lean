/-
  ahead: what follows is passed on.
-/
import Derived.Test.YtplkkacfjepgpaaAhead
set_option linter.unusedVariables false
set_option linter.unusedSimpArgs false
set_option linter.unnecessarySimpa false
namespace Go.Proofs.Ytplkkacfjepgpaa
open Go.Dm
set_option linter.defProp false
set_option maxRecDepth 10000 in
set_option maxHeartbeats 4000000 in
theorem backward_spec (l : List Int) : Dm.Spec Try.prog 48 [.sl 1 (i64s l)] (· = .clo bk1F [.ip [.sl 1 (i64s l)] 0]) := by
  refine spec_of_vc mixed Try.func48 c48 (by rw [show Try.f48.ntmps = _ from Try.ntmps48]; simp) ?_
  unfold m48 r48
  repeat' first | ((first | refine Br.dec ?_ ?_ | refine Br.eqi ?_ ?_) <;> intro h <;> try (exfalso; omega)) | (simp (disch := (first | omega | (simp only [vlen]; first | done | omega))) only [↓vAq, vBq, ↓reduceIte, Nat.reduceBEq, Nat.reduceEqDiff, Nat.reduceLT, Nat.reduceLeDiff, Nat.reduceAdd, Nat.reduceMul, Nat.reduceSub, reduceCtorEq, Int.reduceToNat]) | (refine Br.mk ?_ ?_ <;> intro h) | (refine BrN.mk (fun h => ?_) ?_) | (refine AltVC.mk ?_ ?_)
  refine fin_frz 0 ?_
  repeat' first | ((first | refine Br.dec ?_ ?_ | refine Br.eqi ?_ ?_) <;> intro h <;> try (exfalso; omega)) | (simp (disch := (first | omega | (simp only [vlen]; first | done | omega))) only [↓vAq, vBq, ↓reduceIte, Nat.reduceBEq, Nat.reduceEqDiff, Nat.reduceLT, Nat.reduceLeDiff, Nat.reduceAdd, Nat.reduceMul, Nat.reduceSub, reduceCtorEq, Int.reduceToNat]) | (refine Br.mk ?_ ?_ <;> intro h) | (refine BrN.mk (fun h => ?_) ?_) | (refine AltVC.mk ?_ ?_)
  exact fin_mk rfl
def aft (g : Grammar) (F : List Nat) (N A0 : Nat) (l : List Int) (k : Nat) : Nat := beg g F N (l.drop (l.length - k)) ||| (if emp g N (l.drop (l.length - k)) then A0 else 0)
def pasW (g : Grammar) (F : List Nat) (N A0 : Nat) (W : List Nat) (l : List Int) : Nat → List Nat
  | 0 => W
  | k + 1 => if l.getD (l.length - 1 - k) 0 < g.k then pasW g F N A0 W l k else (pasW g F N A0 W l k).set (l.getD (l.length - 1 - k) 0 - g.k).toNat ((pasW g F N A0 W l k).getD (l.getD (l.length - 1 - k) 0 - g.k).toNat default ||| aft g F N A0 l k)
def pasB (g : Grammar) (F : List Nat) (N A0 : Nat) (W : List Nat) (l : List Int) : Nat → Bool
  | 0 => false
  | k + 1 => pasB g F N A0 W l k || (decide (¬ l.getD (l.length - 1 - k) 0 < g.k) && decide ((pasW g F N A0 W l k).getD (l.getD (l.length - 1 - k) 0 - g.k).toNat default ||| aft g F N A0 l k ≠ (pasW g F N A0 W l k).getD (l.getD (l.length - 1 - k) 0 - g.k).toNat default))
theorem pasW_len {g : Grammar} {F : List Nat} {N A0 : Nat} {W : List Nat} {l : List Int} : ∀ {k : Nat}, (pasW g F N A0 W l k).length = W.length
  | 0 => rfl
  | k + 1 => by unfold pasW; split <;> simp [pasW_len]
theorem aft_lt {g : Grammar} {F : List Nat} {N A0 m k : Nat} {l : List Int} (hF : Sm m F) (hm : g.k ≤ m) (hA : A0 < 2 ^ m) (hl : ∀ y, y ∈ l → 0 ≤ y) : aft g F N A0 l k < 2 ^ m := by
  unfold aft
  refine Nat.or_lt_two_pow (beg_lt hF hm fun y hy => hl y (List.mem_of_mem_drop hy)) ?_
  split
  · exact hA
  · exact Nat.pow_pos (by omega)
theorem Sm.set {m : Nat} {F : List Nat} (h : Sm m F) {i x : Nat} (hx : x < 2 ^ m) : Sm m (F.set i x) := fun y hy => by
  rcases List.mem_or_eq_of_mem_set hy with h' | h'
  · exact h y h'
  · rw [h']; exact hx
theorem pasW_sm {g : Grammar} {F : List Nat} {N A0 m : Nat} {W : List Nat} {l : List Int} (hF : Sm m F) (hW : Sm m W) (hm : g.k ≤ m) (hA : A0 < 2 ^ m) (hl : ∀ y, y ∈ l → 0 ≤ y) : ∀ {k : Nat}, Sm m (pasW g F N A0 W l k)
  | 0 => hW
  | k + 1 => by
    unfold pasW
    split
    · exact pasW_sm hF hW hm hA hl
    · exact (pasW_sm hF hW hm hA hl).set (Nat.or_lt_two_pow ((pasW_sm hF hW hm hA hl).get _) (aft_lt hF hm hA hl))
theorem aft_step {g : Grammar} {F : List Nat} {N A0 k : Nat} {l : List Int} (hk : k < l.length) : aft g F N A0 l (k + 1) = if l.getD (l.length - 1 - k) 0 < g.k then 2 ^ (l.getD (l.length - 1 - k) 0).toNat
    else F.getD (l.getD (l.length - 1 - k) 0 - g.k).toNat default ||| (if N.testBit (l.getD (l.length - 1 - k) 0 - g.k).toNat then aft g F N A0 l k else 0) := by
  have e : l.length - (k + 1) = l.length - 1 - k := by omega
  have e2 : l.length - 1 - k + 1 = l.length - k := by omega
  unfold aft
  rw [e, drop_cons (i := l.length - 1 - k) (by omega), beg_cons, emp_cons, e2]
  by_cases h : l.getD (l.length - 1 - k) 0 < g.k
  · simp only [if_pos h, Bool.false_eq_true, if_false, Nat.or_zero]
  · simp only [if_neg h]
    cases hb : N.testBit (l.getD (l.length - 1 - k) 0 - g.k).toNat with
    | true => simp only [Bool.true_and, if_true, Nat.or_assoc]
    | false => simp only [Bool.false_and, Bool.false_eq_true, if_false, Nat.or_zero]
theorem aft_zero {g : Grammar} {F : List Nat} {N A0 : Nat} {l : List Int} : aft g F N A0 l 0 = A0 := by
  unfold aft
  rw [Nat.sub_zero, List.drop_length, beg_nil, emp_nil, if_pos rfl, Nat.zero_or]
theorem set_self {l : List Nat} {i : Nat} : l.set i (l.getD i default) = l := by
  by_cases h : i < l.length
  · simp [List.getD, h]
  · exact List.set_eq_of_length_le (by omega)
set_option maxRecDepth 10000 in
set_option maxHeartbeats 4000000 in
theorem pass_spec (g : Grammar) (hv : Valid g) (F W : List Nat) (N : Nat) (hF : Sm 4 F) (hW : Sm 4 W) (hlF : F.length = g.n.toNat) (hlW : W.length = g.n.toNat) (hN : N < 2 ^ g.n.toNat) (r : Rule) (hr : r ∈ g.rules) : Dm.SpecH Try.prog 72 [.ptr 0 7 0 0, .ag (rulD r)] (aObs g F W N) (fun d o => d = .v (.bool (pasB g F N (W.getD r.left.toNat default) W r.right r.right.length)) ∧ o = (aObs g F (pasW g F N (W.getD r.left.toNat default) W r.right r.right.length) N).map some) := by
  refine specH_of_vc mixed Try.func72 c72 (by rw [show Try.f72.ntmps = _ from Try.ntmps72]; simp) ?_
  unfold m72 r72
  have hk := hv.k
  have hn := hv.n
  have hp : 2 ^ g.n.toNat ≤ 32 := Nat.le_trans (Nat.pow_le_pow_right (show 0 < 2 by omega) (show g.n.toNat ≤ 5 by omega)) (by decide)
  have hl := hv.left r hr
  have hlong := hv.long r hr
  have hs := hv.right r hr
  have hleft : r.left.toNat < W.length := by omega
  unfold aObs setsR
  repeat' first | ((first | refine Br.dec ?_ ?_ | refine Br.eqi ?_ ?_) <;> intro h <;> try (exfalso; omega)) | (simp (disch := (first | omega | (simp only [vlen]; first | done | omega))) only [vah, ↓vAq, vBq, ↓reduceIte, Nat.reduceBEq, Nat.reduceEqDiff, Nat.reduceLT, Nat.reduceLeDiff, Nat.reduceAdd, Nat.reduceMul, Nat.reduceSub, reduceCtorEq, Int.reduceToNat]) | (refine Br.mk ?_ ?_ <;> intro h) | (refine BrN.mk (fun h => ?_) ?_) | (refine AltVC.mk ?_ ?_)
  refine CallVC.eq (backward_spec r.right) ?_
  repeat' first | ((first | refine Br.dec ?_ ?_ | refine Br.eqi ?_ ?_) <;> intro h <;> try (exfalso; omega)) | (simp (disch := (first | omega | (simp only [vlen]; first | done | omega))) only [vah, ↓vAq, vBq, ↓reduceIte, Nat.reduceBEq, Nat.reduceEqDiff, Nat.reduceLT, Nat.reduceLeDiff, Nat.reduceAdd, Nat.reduceMul, Nat.reduceSub, reduceCtorEq, Int.reduceToNat]) | (refine Br.mk ?_ ?_ <;> intro h) | (refine BrN.mk (fun h => ?_) ?_) | (refine AltVC.mk ?_ ?_)
  refine RfVC.mk (bkRows r.right) (fun _ => []) (fun k : Nat => [(0, ⟨7, [setsR g 1 2 F.length W.length N], false, false, .fix⟩), (1, ⟨1, tbl wD F, true, false, .arr⟩), (2, ⟨1, tbl wD (pasW g F N (W.getD r.left.toNat default) W r.right k), true, false, .arr⟩),
    (3, ⟨1, [[.ptr 0 7 0 0]], false, false, .fix⟩), (4, ⟨2, [[iv .i64 r.left, .sl 1 (i64s r.right)]], true, false, .fix⟩), (5, ⟨1, [[.v (.bool (pasB g F N (W.getD r.left.toNat default) W r.right k))]], true, false, .fix⟩), (6, ⟨1, [[iv .u32 (aft g F N (W.getD r.left.toNat default) r.right k)]], true, false, .fix⟩)])
    (fun k x => x = k) 0 ?_ ?_ rfl ?_ (fun _ => rfl) ?_ ?_
  · repeat' first | ((first | refine Br.dec ?_ ?_ | refine Br.eqi ?_ ?_) <;> intro h <;> try (exfalso; omega)) | (simp (disch := (first | omega | (simp only [vlen]; first | done | omega))) only [vah, ↓vAq, vBq, ↓reduceIte, Nat.reduceBEq, Nat.reduceEqDiff, Nat.reduceLT, Nat.reduceLeDiff, Nat.reduceAdd, Nat.reduceMul, Nat.reduceSub, reduceCtorEq, Int.reduceToNat]) | (refine Br.mk ?_ ?_ <;> intro h) | (refine BrN.mk (fun h => ?_) ?_) | (refine AltVC.mk ?_ ?_)
    exact IterD.mk (by simp only [List.all_cons, List.all_nil, Bool.and_true]; unfold D.cl; rw [alls_leaf rfl]; rfl) (back_it r.right (by omega))
  · intro x hx
    obtain ⟨i, _, rfl⟩ := List.mem_map.1 hx
    rfl
  · rw [aft_zero]
    (simp (disch := (first | omega | (simp only [vlen]; first | done | omega))) only [Fits_u, Fits_m, Fits_nil, List.length_append, vah, ↓vAq, vBq, ↓reduceIte, Nat.reduceBEq, Nat.reduceEqDiff, Nat.reduceLT, Nat.reduceLeDiff, Nat.reduceAdd, Nat.reduceMul, Nat.reduceSub, reduceCtorEq, Int.reduceToNat] <;> (repeat' first | rfl | apply And.intro))
  · rintro k x hk rfl
    rw [bkRows_len] at hk
    rw [bkRows_get hk]
    unfold bkRow
    have hx := hs _ (getD_mem (l := r.right) (i := r.right.length - 1 - x) (d := 0) (by omega))
    have hA0 : W.getD r.left.toNat default < 2 ^ 4 := hW.get _
    have hs0 : ∀ y, y ∈ r.right → 0 ≤ y := fun y hy => (hs y hy).1
    have hA := aft_lt (g := g) (F := F) (N := N) (A0 := W.getD r.left.toNat default) (m := 4) (k := x) (l := r.right) hF (by omega) hA0 hs0
    have hWs := pasW_sm (g := g) (F := F) (N := N) (A0 := W.getD r.left.toNat default) (m := 4) (k := x) (W := W) (l := r.right) hF hW (by omega) hA0 hs0
    have hWl := pasW_len (g := g) (F := F) (N := N) (A0 := W.getD r.left.toNat default) (k := x) (W := W) (l := r.right)
    have eA := aft_step (g := g) (F := F) (N := N) (A0 := W.getD r.left.toNat default) hk
    have eW : pasW g F N (W.getD r.left.toNat default) W r.right (x + 1) = if r.right.getD (r.right.length - 1 - x) 0 < g.k then pasW g F N (W.getD r.left.toNat default) W r.right x else (pasW g F N (W.getD r.left.toNat default) W r.right x).set (r.right.getD (r.right.length - 1 - x) 0 - g.k).toNat ((pasW g F N (W.getD r.left.toNat default) W r.right x).getD (r.right.getD (r.right.length - 1 - x) 0 - g.k).toNat default ||| aft g F N (W.getD r.left.toNat default) r.right x) := by rw [pasW]
    have eB : pasB g F N (W.getD r.left.toNat default) W r.right (x + 1) = (pasB g F N (W.getD r.left.toNat default) W r.right x || (decide (¬ r.right.getD (r.right.length - 1 - x) 0 < g.k) && decide ((pasW g F N (W.getD r.left.toNat default) W r.right x).getD (r.right.getD (r.right.length - 1 - x) 0 - g.k).toNat default ||| aft g F N (W.getD r.left.toNat default) r.right x ≠ (pasW g F N (W.getD r.left.toNat default) W r.right x).getD (r.right.getD (r.right.length - 1 - x) 0 - g.k).toNat default))) := by rw [pasB]
    have hF0 := hF.get (r.right.getD (r.right.length - 1 - x) 0 - g.k).toNat
    have hsp := has_spec N (r.right.getD (r.right.length - 1 - x) 0 - g.k).toNat (by omega) (by omega)
    generalize hy : r.right.getD (r.right.length - 1 - x) 0 = y at hx eA eW eB hF0 hsp ⊢
    generalize hWe : pasW g F N (W.getD r.left.toNat default) W r.right x = Wk at hWs hWl eW eB ⊢
    generalize hBe : pasB g F N (W.getD r.left.toNat default) W r.right x = Bk at eB ⊢
    generalize hAe : aft g F N (W.getD r.left.toNat default) r.right x = Ak at hA eA eW eB ⊢
    have hWk0 := hWs.get (y - g.k).toNat
    have i1 := p16 hA (by omega)
    have i2 := p16 hWk0 (by omega)
    have i3 := p16 hF0 (by omega)
    have hor := orN (S := Wk.getD (y - g.k).toNat default) (T := Ak) (by omega) (by omega)
    repeat' first | ((first | refine Br.dec ?_ ?_ | refine Br.eqi ?_ ?_) <;> intro h <;> try (exfalso; omega)) | (simp (disch := (first | omega | (simp only [vlen]; first | done | omega))) only [vah, ↓vAq, vBq, ↓reduceIte, Nat.reduceBEq, Nat.reduceEqDiff, Nat.reduceLT, Nat.reduceLeDiff, Nat.reduceAdd, Nat.reduceMul, Nat.reduceSub, reduceCtorEq, Int.reduceToNat]) | (refine Br.mk ?_ ?_ <;> intro h) | (refine BrN.mk (fun h => ?_) ?_) | (refine AltVC.mk ?_ ?_)
    · rw [if_pos (by assumption)] at eA eW
      rw [decide_eq_false (show ¬ ¬ y < g.k by omega), Bool.false_and, Bool.or_false] at eB
      rw [shlN (by omega)]
      exact rfK.mk (x + 1) (by simp (disch := (first | omega | (simp only [vlen]; first | done | omega))) only [↓vAq, vBq, ↓reduceIte, Nat.reduceBEq, Nat.reduceEqDiff, Nat.reduceLT, Nat.reduceLeDiff, Nat.reduceAdd, Nat.reduceMul, Nat.reduceSub, reduceCtorEq, Int.reduceToNat]) rfl (by simp only [eW, eA, eB]; (simp (disch := (first | omega | (simp only [vlen]; first | done | omega))) only [Fits_u, Fits_m, Fits_nil, List.length_append, vah, ↓vAq, vBq, ↓reduceIte, Nat.reduceBEq, Nat.reduceEqDiff, Nat.reduceLT, Nat.reduceLeDiff, Nat.reduceAdd, Nat.reduceMul, Nat.reduceSub, reduceCtorEq, Int.reduceToNat] <;> (repeat' first | rfl | apply And.intro)))
    · have hno : ¬ y < g.k := by assumption
      rw [if_neg hno] at eA eW
      have he : Wk.getD (y - g.k).toNat default ||| Ak = Wk.getD (y - g.k).toNat default := by have := hor.symm.trans (by assumption); omega
      rw [he] at eW eB
      rw [set_self, ] at eW
      rw [decide_eq_false (show ¬ (Wk.getD (y - g.k).toNat default ≠ Wk.getD (y - g.k).toNat default) from fun h => h rfl), Bool.and_false, Bool.or_false] at eB
      rw [Int.toNat_of_nonneg (by omega)] at hsp
      refine CallVC.eq hsp ?_
      repeat' first | ((first | refine Br.dec ?_ ?_ | refine Br.eqi ?_ ?_) <;> intro h <;> try (exfalso; omega)) | (simp (disch := (first | omega | (simp only [vlen]; first | done | omega))) only [vah, ↓vAq, vBq, ↓reduceIte, Nat.reduceBEq, Nat.reduceEqDiff, Nat.reduceLT, Nat.reduceLeDiff, Nat.reduceAdd, Nat.reduceMul, Nat.reduceSub, reduceCtorEq, Int.reduceToNat]) | (refine Br.mk ?_ ?_ <;> intro h) | (refine BrN.mk (fun h => ?_) ?_) | (refine AltVC.mk ?_ ?_)
      · have hb : N.testBit (y - g.k).toNat = true := by assumption
        rw [if_pos hb] at eA
        rw [orN (S := Ak) (T := F.getD (y - g.k).toNat default) (by omega) (by omega)]
        exact rfK.mk (x + 1) (by simp (disch := (first | omega | (simp only [vlen]; first | done | omega))) only [↓vAq, vBq, ↓reduceIte, Nat.reduceBEq, Nat.reduceEqDiff, Nat.reduceLT, Nat.reduceLeDiff, Nat.reduceAdd, Nat.reduceMul, Nat.reduceSub, reduceCtorEq, Int.reduceToNat]) rfl (by simp only [eW, eA, eB, Nat.or_comm (F.getD (y - g.k).toNat default)]; (simp (disch := (first | omega | (simp only [vlen]; first | done | omega))) only [Fits_u, Fits_m, Fits_nil, List.length_append, vah, ↓vAq, vBq, ↓reduceIte, Nat.reduceBEq, Nat.reduceEqDiff, Nat.reduceLT, Nat.reduceLeDiff, Nat.reduceAdd, Nat.reduceMul, Nat.reduceSub, reduceCtorEq, Int.reduceToNat] <;> (repeat' first | rfl | apply And.intro)))
      · have hb : N.testBit (y - g.k).toNat = false := by assumption
        rw [hb, if_neg (by simp), Nat.or_zero] at eA
        exact rfK.mk (x + 1) (by simp (disch := (first | omega | (simp only [vlen]; first | done | omega))) only [↓vAq, vBq, ↓reduceIte, Nat.reduceBEq, Nat.reduceEqDiff, Nat.reduceLT, Nat.reduceLeDiff, Nat.reduceAdd, Nat.reduceMul, Nat.reduceSub, reduceCtorEq, Int.reduceToNat]) rfl (by simp only [eW, eA, eB]; (simp (disch := (first | omega | (simp only [vlen]; first | done | omega))) only [Fits_u, Fits_m, Fits_nil, List.length_append, vah, ↓vAq, vBq, ↓reduceIte, Nat.reduceBEq, Nat.reduceEqDiff, Nat.reduceLT, Nat.reduceLeDiff, Nat.reduceAdd, Nat.reduceMul, Nat.reduceSub, reduceCtorEq, Int.reduceToNat] <;> (repeat' first | rfl | apply And.intro)))
    · have hno : ¬ y < g.k := by assumption
      rw [if_neg hno] at eA eW
      have he : Wk.getD (y - g.k).toNat default ||| Ak ≠ Wk.getD (y - g.k).toNat default := fun he => by rw [he] at hor; contradiction
      rw [decide_eq_true he, decide_eq_true hno, Bool.and_self, Bool.or_true] at eB
      rw [Int.toNat_of_nonneg (by omega)] at hsp
      rw [hor]
      refine CallVC.eq hsp ?_
      repeat' first | ((first | refine Br.dec ?_ ?_ | refine Br.eqi ?_ ?_) <;> intro h <;> try (exfalso; omega)) | (simp (disch := (first | omega | (simp only [vlen]; first | done | omega))) only [vah, ↓vAq, vBq, ↓reduceIte, Nat.reduceBEq, Nat.reduceEqDiff, Nat.reduceLT, Nat.reduceLeDiff, Nat.reduceAdd, Nat.reduceMul, Nat.reduceSub, reduceCtorEq, Int.reduceToNat]) | (refine Br.mk ?_ ?_ <;> intro h) | (refine BrN.mk (fun h => ?_) ?_) | (refine AltVC.mk ?_ ?_)
      · have hb : N.testBit (y - g.k).toNat = true := by assumption
        rw [if_pos hb] at eA
        rw [orN (S := Ak) (T := F.getD (y - g.k).toNat default) (by omega) (by omega)]
        exact rfK.mk (x + 1) (by simp (disch := (first | omega | (simp only [vlen]; first | done | omega))) only [↓vAq, vBq, ↓reduceIte, Nat.reduceBEq, Nat.reduceEqDiff, Nat.reduceLT, Nat.reduceLeDiff, Nat.reduceAdd, Nat.reduceMul, Nat.reduceSub, reduceCtorEq, Int.reduceToNat]) rfl (by simp only [eW, eA, eB, Nat.or_comm (F.getD (y - g.k).toNat default)]; (simp (disch := (first | omega | (simp only [vlen]; first | done | omega))) only [Fits_u, Fits_m, Fits_nil, List.length_append, vah, ↓vAq, vBq, ↓reduceIte, Nat.reduceBEq, Nat.reduceEqDiff, Nat.reduceLT, Nat.reduceLeDiff, Nat.reduceAdd, Nat.reduceMul, Nat.reduceSub, reduceCtorEq, Int.reduceToNat] <;> (repeat' first | rfl | apply And.intro)))
      · have hb : N.testBit (y - g.k).toNat = false := by assumption
        rw [hb, if_neg (by simp), Nat.or_zero] at eA
        exact rfK.mk (x + 1) (by simp (disch := (first | omega | (simp only [vlen]; first | done | omega))) only [↓vAq, vBq, ↓reduceIte, Nat.reduceBEq, Nat.reduceEqDiff, Nat.reduceLT, Nat.reduceLeDiff, Nat.reduceAdd, Nat.reduceMul, Nat.reduceSub, reduceCtorEq, Int.reduceToNat]) rfl (by simp only [eW, eA, eB]; (simp (disch := (first | omega | (simp only [vlen]; first | done | omega))) only [Fits_u, Fits_m, Fits_nil, List.length_append, vah, ↓vAq, vBq, ↓reduceIte, Nat.reduceBEq, Nat.reduceEqDiff, Nat.reduceLT, Nat.reduceLeDiff, Nat.reduceAdd, Nat.reduceMul, Nat.reduceSub, reduceCtorEq, Int.reduceToNat] <;> (repeat' first | rfl | apply And.intro)))
  · rintro x rfl
    rw [bkRows_len]
    repeat' first | ((first | refine Br.dec ?_ ?_ | refine Br.eqi ?_ ?_) <;> intro h <;> try (exfalso; omega)) | (simp (disch := (first | omega | (simp only [vlen]; first | done | omega))) only [vah, ↓vAq, vBq, ↓reduceIte, Nat.reduceBEq, Nat.reduceEqDiff, Nat.reduceLT, Nat.reduceLeDiff, Nat.reduceAdd, Nat.reduceMul, Nat.reduceSub, reduceCtorEq, Int.reduceToNat]) | (refine Br.mk ?_ ?_ <;> intro h) | (refine BrN.mk (fun h => ?_) ?_) | (refine AltVC.mk ?_ ?_)
    exact finH_mk ((aObs g F (pasW g F N (W.getD r.left.toNat default) W r.right r.right.length) N).map some) (by simp) (by repeat' first | ((first | refine Br.dec ?_ ?_ | refine Br.eqi ?_ ?_) <;> intro h <;> try (exfalso; omega)) | (simp (disch := (first | omega | (simp only [vlen]; first | done | omega))) only [vah, pasW_len, ↓vAq, vBq, ↓reduceIte, Nat.reduceBEq, Nat.reduceEqDiff, Nat.reduceLT, Nat.reduceLeDiff, Nat.reduceAdd, Nat.reduceMul, Nat.reduceSub, reduceCtorEq, Int.reduceToNat]) | (refine Br.mk ?_ ?_ <;> intro h) | (refine BrN.mk (fun h => ?_) ?_) | (refine AltVC.mk ?_ ?_)) (by repeat' first | ((first | refine Br.dec ?_ ?_ | refine Br.eqi ?_ ?_) <;> intro h <;> try (exfalso; omega)) | (simp (disch := (first | omega | (simp only [vlen]; first | done | omega))) only [vah, pasW_len, ↓vAq, vBq, ↓reduceIte, Nat.reduceBEq, Nat.reduceEqDiff, Nat.reduceLT, Nat.reduceLeDiff, Nat.reduceAdd, Nat.reduceMul, Nat.reduceSub, reduceCtorEq, Int.reduceToNat]) | (refine Br.mk ?_ ?_ <;> intro h) | (refine BrN.mk (fun h => ?_) ?_) | (refine AltVC.mk ?_ ?_)) ⟨by repeat' first | ((first | refine Br.dec ?_ ?_ | refine Br.eqi ?_ ?_) <;> intro h <;> try (exfalso; omega)) | (simp (disch := (first | omega | (simp only [vlen]; first | done | omega))) only [vah, pasW_len, ↓vAq, vBq, ↓reduceIte, Nat.reduceBEq, Nat.reduceEqDiff, Nat.reduceLT, Nat.reduceLeDiff, Nat.reduceAdd, Nat.reduceMul, Nat.reduceSub, reduceCtorEq, Int.reduceToNat]) | (refine Br.mk ?_ ?_ <;> intro h) | (refine BrN.mk (fun h => ?_) ?_) | (refine AltVC.mk ?_ ?_), rfl⟩
end Go.Proofs.Ytplkkacfjepgpaa
