/-
  Grammars: what is wrong with one; the law GrammarChecks.
-/
import Derived.Test.YtjekkbpdgnohcaaLibF
namespace Go.Proofs.Ytjekkbpdgnohcaa
open Go.Dm
set_option linter.unusedSimpArgs false
set_option linter.unnecessarySimpa false
set_option linter.unusedVariables false
def isSign (g : Grammar) (x : Int) : Bool := decide (0 ≤ x ∧ x < g.k + g.n)
def isSigns (g : Grammar) (l : List Int) : Bool := l.all (isSign g)
def gcode (g : Grammar) : Int :=
  if ¬ (1 ≤ g.k ∧ g.k ≤ 3) ∨ ¬ (1 ≤ g.n ∧ g.n ≤ 5) ∨ 10 < g.rules.length then 1
  else if g.rules.any (fun r => decide (4 < r.right.length)) = true then 1
  else if ¬ (0 ≤ g.start ∧ g.start < g.n) then 2
  else if g.rules.any (fun r => !(decide (0 ≤ r.left ∧ r.left < g.n) && isSigns g r.right)) = true then 2
  else 0
set_option maxRecDepth 10000 in
set_option maxHeartbeats 4000000 in
theorem gWithin_spec (n lo hi : Int) : Dm.Spec Try.prog 35 [iv .i64 n, iv .i64 lo, iv .i64 hi] (· = .v (.bool (decide (lo ≤ n ∧ n ≤ hi)))) := by
  refine spec_of_vc mixed Try.func35 c35 (by rw [show Try.f35.ntmps = _ from Try.ntmps35]; simp) ?_
  unfold m35 r35
  repeat' first | ((first | refine Br.dec ?_ ?_ | refine Br.eqi ?_ ?_) <;> intro h <;> try (exfalso; omega)) | (simp (disch := (first | omega | (simp only [vlen]; first | done | omega))) only [↓vAq, vBq, ↓reduceIte, Nat.reduceBEq, Nat.reduceEqDiff, Nat.reduceLT, Nat.reduceLeDiff, Nat.reduceAdd, Nat.reduceMul, Nat.reduceSub, reduceCtorEq, Int.reduceToNat]) | (refine Br.mk ?_ ?_ <;> intro h) | (refine BrN.mk (fun h => ?_) ?_) | (refine AltVC.mk ?_ ?_)
  · exact fin_mk (vbEq (by congr 1; exact propext ⟨fun h => ⟨by assumption, h⟩, fun h => h.2⟩))
  · exact fin_mk (vbEq (by rw [decide_eq_false (fun h => by omega)]))
set_option maxRecDepth 10000 in
set_option maxHeartbeats 4000000 in
theorem gLong_spec (r : Rule) (h : r.right.length ≤ 9223372036854775807) : Dm.Spec Try.prog 37 [.ag (rulD r)] (· = .v (.bool (decide (4 < r.right.length)))) := by
  refine spec_of_vc mixed Try.func37 c37 (by rw [show Try.f37.ntmps = _ from Try.ntmps37]; simp) ?_
  unfold m37 r37
  repeat' first | ((first | refine Br.dec ?_ ?_ | refine Br.eqi ?_ ?_) <;> intro h <;> try (exfalso; omega)) | (simp (disch := (first | omega | (simp only [vlen]; first | done | omega))) only [↓vAq, vBq, ↓reduceIte, Nat.reduceBEq, Nat.reduceEqDiff, Nat.reduceLT, Nat.reduceLeDiff, Nat.reduceAdd, Nat.reduceMul, Nat.reduceSub, reduceCtorEq, Int.reduceToNat]) | (refine Br.mk ?_ ?_ <;> intro h) | (refine BrN.mk (fun h => ?_) ?_) | (refine AltVC.mk ?_ ?_)
  exact fin_mk (vbEq (dec_iff (by omega)))
set_option maxRecDepth 10000 in
set_option maxHeartbeats 4000000 in
theorem isSign_spec (g : Grammar) (hk : 0 ≤ g.k ∧ g.k ≤ 1000) (hn : 0 ≤ g.n ∧ g.n ≤ 1000) (s : Int) : Dm.Spec Try.prog 56 [iv .i64 s, .ip (graD g) 0] (· = .v (.bool (!isSign g s))) := by
  refine spec_of_vc mixed Try.func56 c56 (by rw [show Try.f56.ntmps = _ from Try.ntmps56]; simp) ?_
  unfold m56 r56
  repeat' first | ((first | refine Br.dec ?_ ?_ | refine Br.eqi ?_ ?_) <;> intro h <;> try (exfalso; omega)) | (simp (disch := (first | omega | (simp only [vlen]; first | done | omega))) only [↓vAq, vBq, ↓reduceIte, Nat.reduceBEq, Nat.reduceEqDiff, Nat.reduceLT, Nat.reduceLeDiff, Nat.reduceAdd, Nat.reduceMul, Nat.reduceSub, reduceCtorEq, Int.reduceToNat]) | (refine Br.mk ?_ ?_ <;> intro h) | (refine BrN.mk (fun h => ?_) ?_) | (refine AltVC.mk ?_ ?_)
  · refine fin_mk (vbEq ?_)
    rw [isSign, decide_eq_false (by omega)]; rfl
  · refine fin_mk (vbEq ?_)
    rw [isSign, ← decide_not]
    exact dec_iff (by omega)
theorem all_not' {α : Type} {p : α → Bool} {l : List α} : (!(l.any fun a => !p a)) = l.all p := by
  rw [List.not_any_eq_all_not]; simp
set_option maxRecDepth 10000 in
set_option maxHeartbeats 4000000 in
theorem isSigns_spec (g : Grammar) (hk : 0 ≤ g.k ∧ g.k ≤ 1000) (hn : 0 ≤ g.n ∧ g.n ≤ 1000) (l : List Int) (hl : l.length ≤ 9223372036854775807) : Dm.Spec Try.prog 38 [.ag (graD g), .sl 1 (i64s l)] (· = .v (.bool (isSigns g l))) := by
  refine spec_of_vc mixed Try.func38 c38 (by rw [show Try.f38.ntmps = _ from Try.ntmps38]; simp) ?_
  unfold m38 r38
  repeat' first | ((first | refine Br.dec ?_ ?_ | refine Br.eqi ?_ ?_) <;> intro h <;> try (exfalso; omega)) | (simp (disch := (first | omega | (simp only [vlen]; first | done | omega))) only [↓vAq, vBq, ↓reduceIte, Nat.reduceBEq, Nat.reduceEqDiff, Nat.reduceLT, Nat.reduceLeDiff, Nat.reduceAdd, Nat.reduceMul, Nat.reduceSub, reduceCtorEq, Int.reduceToNat]) | (refine Br.mk ?_ ?_ <;> intro h) | (refine BrN.mk (fun h => ?_) ?_) | (refine AltVC.mk ?_ ?_)
  refine CallVC.eqo (conF_int l (fun s => !isSign g s) _ [.ip (graD g) 0] hl (by simp (disch := (first | omega | (simp only [vlen]; first | done | omega))) only [↓vAq, vBq, ↓reduceIte, Nat.reduceBEq, Nat.reduceEqDiff, Nat.reduceLT, Nat.reduceLeDiff, Nat.reduceAdd, Nat.reduceMul, Nat.reduceSub, reduceCtorEq, Int.reduceToNat]) fun a ha => isSign_spec g hk hn a) (by simp (disch := (first | omega | (simp only [vlen]; first | done | omega))) only [↓vAq, vBq, ↓reduceIte, Nat.reduceBEq, Nat.reduceEqDiff, Nat.reduceLT, Nat.reduceLeDiff, Nat.reduceAdd, Nat.reduceMul, Nat.reduceSub, reduceCtorEq, Int.reduceToNat]) ?_
  repeat' first | ((first | refine Br.dec ?_ ?_ | refine Br.eqi ?_ ?_) <;> intro h <;> try (exfalso; omega)) | (simp (disch := (first | omega | (simp only [vlen]; first | done | omega))) only [↓vAq, vBq, ↓reduceIte, Nat.reduceBEq, Nat.reduceEqDiff, Nat.reduceLT, Nat.reduceLeDiff, Nat.reduceAdd, Nat.reduceMul, Nat.reduceSub, reduceCtorEq, Int.reduceToNat]) | (refine Br.mk ?_ ?_ <;> intro h) | (refine BrN.mk (fun h => ?_) ?_) | (refine AltVC.mk ?_ ?_)
  exact fin_mk (vbEq all_not')
def badRule (g : Grammar) (r : Rule) : Bool := !(decide (0 ≤ r.left ∧ r.left < g.n) && isSigns g r.right)
theorem gcode_b {g : Grammar} : gcode g = if ¬ (1 ≤ g.k ∧ g.k ≤ 3) ∨ ¬ (1 ≤ g.n ∧ g.n ≤ 5) ∨ 10 < g.rules.length then 1
  else if g.rules.any (fun r => decide (4 < r.right.length)) = true then 1
  else if ¬ (0 ≤ g.start ∧ g.start < g.n) then 2
  else if g.rules.any (badRule g) = true then 2 else 0 := rfl
theorem any_hit {α : Type} [Inhabited α] {p : α → Bool} {l : List α} {i : Nat} (hi : i < l.length) (h : p (l.getD i default) = true) : l.any p = true :=
  List.any_eq_true.2 ⟨_, getD_mem' hi, h⟩
set_option maxRecDepth 10000 in
set_option maxHeartbeats 4000000 in
theorem gCheck_spec (g : Grammar) (hg : g.ok) : Dm.Spec Try.prog 22 [.ag (graD g)] (· = iv .i64 (gcode g)) := by
  refine spec_of_vc mixed Try.func22 c22 (by rw [show Try.f22.ntmps = _ from Try.ntmps22]; simp) ?_
  unfold m22 r22
  have hr : g.rules.length ≤ 9223372036854775807 := maxLen_le hg.2.2.2.1
  have hk : -9223372036854775808 ≤ g.k ∧ g.k ≤ 9223372036854775807 := hg.1
  have hn : -9223372036854775808 ≤ g.n ∧ g.n ≤ 9223372036854775807 := hg.2.1
  have hq : ∀ r, r ∈ g.rules → r.right.length ≤ 9223372036854775807 := fun r h => maxLen_le (hg.2.2.2.2 r h).2.1
  have r1 : ¬ (1 ≤ g.k ∧ g.k ≤ 3) ∨ ¬ (1 ≤ g.n ∧ g.n ≤ 5) ∨ 10 < g.rules.length → gcode g = 1 := fun h => by rw [gcode, if_pos h]
  repeat' first | ((first | refine Br.dec ?_ ?_ | refine Br.eqi ?_ ?_) <;> intro h <;> try (exfalso; omega)) | (simp (disch := (first | omega | (simp only [vlen]; first | done | omega))) only [↓vAq, vBq, ↓reduceIte, Nat.reduceBEq, Nat.reduceEqDiff, Nat.reduceLT, Nat.reduceLeDiff, Nat.reduceAdd, Nat.reduceMul, Nat.reduceSub, reduceCtorEq, Int.reduceToNat]) | (refine Br.mk ?_ ?_ <;> intro h) | (refine BrN.mk (fun h => ?_) ?_) | (refine AltVC.mk ?_ ?_)
  refine CallVC.eq (gWithin_spec _ _ _) ?_
  repeat' first | ((first | refine Br.dec ?_ ?_ | refine Br.eqi ?_ ?_) <;> intro h <;> try (exfalso; omega)) | (simp (disch := (first | omega | (simp only [vlen]; first | done | omega))) only [↓vAq, vBq, ↓reduceIte, Nat.reduceBEq, Nat.reduceEqDiff, Nat.reduceLT, Nat.reduceLeDiff, Nat.reduceAdd, Nat.reduceMul, Nat.reduceSub, reduceCtorEq, Int.reduceToNat]) | (refine Br.mk ?_ ?_ <;> intro h) | (refine BrN.mk (fun h => ?_) ?_) | (refine AltVC.mk ?_ ?_)
  · refine CallVC.eq (gWithin_spec _ _ _) ?_
    repeat' first | ((first | refine Br.dec ?_ ?_ | refine Br.eqi ?_ ?_) <;> intro h <;> try (exfalso; omega)) | (simp (disch := (first | omega | (simp only [vlen]; first | done | omega))) only [↓vAq, vBq, ↓reduceIte, Nat.reduceBEq, Nat.reduceEqDiff, Nat.reduceLT, Nat.reduceLeDiff, Nat.reduceAdd, Nat.reduceMul, Nat.reduceSub, reduceCtorEq, Int.reduceToNat]) | (refine Br.mk ?_ ?_ <;> intro h) | (refine BrN.mk (fun h => ?_) ?_) | (refine AltVC.mk ?_ ?_)
    · exact fin_mk (by rw [r1 (by omega)])
    · refine CallVC.eqo (conF_rule g.rules (fun r => decide (4 < r.right.length)) _ [] hr rfl fun r h => gLong_spec r (hq r h)) (by simp (disch := (first | omega | (simp only [vlen]; first | done | omega))) only [↓vAq, vBq, ↓reduceIte, Nat.reduceBEq, Nat.reduceEqDiff, Nat.reduceLT, Nat.reduceLeDiff, Nat.reduceAdd, Nat.reduceMul, Nat.reduceSub, reduceCtorEq, Int.reduceToNat]) ?_
      repeat' first | ((first | refine Br.dec ?_ ?_ | refine Br.eqi ?_ ?_) <;> intro h <;> try (exfalso; omega)) | (simp (disch := (first | omega | (simp only [vlen]; first | done | omega))) only [↓vAq, vBq, ↓reduceIte, Nat.reduceBEq, Nat.reduceEqDiff, Nat.reduceLT, Nat.reduceLeDiff, Nat.reduceAdd, Nat.reduceMul, Nat.reduceSub, reduceCtorEq, Int.reduceToNat]) | (refine Br.mk ?_ ?_ <;> intro h) | (refine BrN.mk (fun h => ?_) ?_) | (refine AltVC.mk ?_ ?_)
      · exact fin_mk (by rw [gcode, if_neg (by omega), if_pos (by assumption)])
      · have h4 : (g.rules.any fun r => decide (4 < r.right.length)) = false := by assumption
        refine CallVC.eq (gWithin_spec _ _ _) ?_
        repeat' first | ((first | refine Br.dec ?_ ?_ | refine Br.eqi ?_ ?_) <;> intro h <;> try (exfalso; omega)) | (simp (disch := (first | omega | (simp only [vlen]; first | done | omega))) only [↓vAq, vBq, ↓reduceIte, Nat.reduceBEq, Nat.reduceEqDiff, Nat.reduceLT, Nat.reduceLeDiff, Nat.reduceAdd, Nat.reduceMul, Nat.reduceSub, reduceCtorEq, Int.reduceToNat]) | (refine Br.mk ?_ ?_ <;> intro h) | (refine BrN.mk (fun h => ?_) ?_) | (refine AltVC.mk ?_ ?_)
        · refine LoopVC.mk (X := Nat) (fun i => [(38, iv .i64 i)]) (fun i => [(0, ⟨4, [[iv .i64 g.k, iv .i64 g.n, iv .i64 g.start, .sl 2 (tbl rulD g.rules)]], true, false, .fix⟩)]) (fun i => g.rules.length - i) (fun i => i ≤ g.rules.length ∧ ∀ j, j < i → badRule g (g.rules.getD j default) = false) 0 ⟨by omega, by omega⟩ ?_ ?_
          · (simp (disch := (first | omega | (simp only [vlen]; first | done | omega))) only [Fits_u, Fits_m, Fits_nil, List.length_append, ↓vAq, vBq, ↓reduceIte, Nat.reduceBEq, Nat.reduceEqDiff, Nat.reduceLT, Nat.reduceLeDiff, Nat.reduceAdd, Nat.reduceMul, Nat.reduceSub, reduceCtorEq, Int.reduceToNat] <;> (repeat' first | rfl | apply And.intro))
          · rintro i ⟨hi, hb⟩
            repeat' first | ((first | refine Br.dec ?_ ?_ | refine Br.eqi ?_ ?_) <;> intro h <;> try (exfalso; omega)) | (simp (disch := (first | omega | (simp only [vlen]; first | done | omega))) only [↓vAq, vBq, ↓reduceIte, Nat.reduceBEq, Nat.reduceEqDiff, Nat.reduceLT, Nat.reduceLeDiff, Nat.reduceAdd, Nat.reduceMul, Nat.reduceSub, reduceCtorEq, Int.reduceToNat]) | (refine Br.mk ?_ ?_ <;> intro h) | (refine BrN.mk (fun h => ?_) ?_) | (refine AltVC.mk ?_ ?_)
            · have hm : g.rules.getD i default ∈ g.rules := getD_mem' (by omega)
              refine CallVC.eq (gWithin_spec _ _ _) ?_
              repeat' first | ((first | refine Br.dec ?_ ?_ | refine Br.eqi ?_ ?_) <;> intro h <;> try (exfalso; omega)) | (simp (disch := (first | omega | (simp only [vlen]; first | done | omega))) only [↓vAq, vBq, ↓reduceIte, Nat.reduceBEq, Nat.reduceEqDiff, Nat.reduceLT, Nat.reduceLeDiff, Nat.reduceAdd, Nat.reduceMul, Nat.reduceSub, reduceCtorEq, Int.reduceToNat]) | (refine Br.mk ?_ ?_ <;> intro h) | (refine BrN.mk (fun h => ?_) ?_) | (refine AltVC.mk ?_ ?_)
              · refine CallVC.eq (isSigns_spec g (by omega) (by omega) _ (hq _ hm)) ?_
                repeat' first | ((first | refine Br.dec ?_ ?_ | refine Br.eqi ?_ ?_) <;> intro h <;> try (exfalso; omega)) | (simp (disch := (first | omega | (simp only [vlen]; first | done | omega))) only [↓vAq, vBq, ↓reduceIte, Nat.reduceBEq, Nat.reduceEqDiff, Nat.reduceLT, Nat.reduceLeDiff, Nat.reduceAdd, Nat.reduceMul, Nat.reduceSub, reduceCtorEq, Int.reduceToNat]) | (refine Br.mk ?_ ?_ <;> intro h) | (refine BrN.mk (fun h => ?_) ?_) | (refine AltVC.mk ?_ ?_)
                · have e : isSigns g (g.rules.getD i default).right = true := by assumption
                  refine loopK.mk (i + 1) (by simp (disch := (first | omega | (simp only [vlen]; first | done | omega))) only [↓vAq, vBq, ↓reduceIte, Nat.reduceBEq, Nat.reduceEqDiff, Nat.reduceLT, Nat.reduceLeDiff, Nat.reduceAdd, Nat.reduceMul, Nat.reduceSub, reduceCtorEq, Int.reduceToNat]) ⟨by omega, fun j hj => ?_⟩ (by omega) ?_
                  · by_cases e2 : j = i
                    · subst e2; rw [badRule, e, decide_eq_true (by omega)]; rfl
                    · exact hb j (by omega)
                  · (simp (disch := (first | omega | (simp only [vlen]; first | done | omega))) only [Fits_u, Fits_m, Fits_nil, List.length_append, ↓vAq, vBq, ↓reduceIte, Nat.reduceBEq, Nat.reduceEqDiff, Nat.reduceLT, Nat.reduceLeDiff, Nat.reduceAdd, Nat.reduceMul, Nat.reduceSub, reduceCtorEq, Int.reduceToNat] <;> (repeat' first | rfl | apply And.intro))
                · have e : isSigns g (g.rules.getD i default).right = false := by assumption
                  exact fin_mk (by rw [gcode_b, if_neg (by omega), if_neg (by rw [h4]; simp), if_neg (by omega), if_pos (any_hit (i := i) (by omega) (by rw [badRule, e]; simp))])
              · exact fin_mk (by rw [gcode_b, if_neg (by omega), if_neg (by rw [h4]; simp), if_neg (by omega), if_pos (any_hit (i := i) (by omega) (by rw [badRule, decide_eq_false (by omega)]; rfl))])
            · exact fin_mk (by rw [gcode_b, if_neg (by omega), if_neg (by rw [h4]; simp), if_neg (by omega), if_neg (by rw [any_none (i := i) (by omega) hb]; simp)])
        · exact fin_mk (by rw [gcode, if_neg (by omega), if_neg (by rw [h4]; simp), if_pos (by omega)])
    · exact fin_mk (by rw [r1 (by omega)])
  · exact fin_mk (by rw [r1 (by omega)])
theorem all_hit {α : Type} [Inhabited α] {p : α → Bool} {l : List α} {i : Nat} (hi : i < l.length) (h : p (l.getD i default) = false) : l.all p = false :=
  List.all_eq_false.2 ⟨_, getD_mem' hi, by rw [h]; simp⟩
theorem all_none {α : Type} [Inhabited α] {p : α → Bool} {l : List α} {i : Nat} (hi : l.length ≤ i) (hn : ∀ j, j < i → p (l.getD j default) = true) : l.all p = true := by
  rw [List.all_eq_true]
  intro x hx
  obtain ⟨j, hj, e⟩ := mem_getD hx
  rw [← e, hn j (by omega)]
theorem succ_all {p : Nat → Prop} {i : Nat} (h : ∀ j, j < i → p j) (hi : p i) : ∀ j, j < i + 1 → p j := fun j hj => by
  by_cases e : j = i
  · rw [e]; exact hi
  · exact h j (by omega)
set_option maxRecDepth 10000 in
set_option maxHeartbeats 4000000 in
theorem signs_spec (g : Grammar) (hk : 0 ≤ g.k ∧ g.k ≤ 1000) (hn : 0 ≤ g.n ∧ g.n ≤ 1000) (l : List Int) (hl : l.length ≤ 9223372036854775807) : Dm.Spec Try.prog 33 [.ag (graD g), .sl 1 (i64s l)] (· = .v (.bool (isSigns g l))) := by
  refine spec_of_vc mixed Try.func33 c33 (by rw [show Try.f33.ntmps = _ from Try.ntmps33]; simp) ?_
  unfold m33 r33
  repeat' first | ((first | refine Br.dec ?_ ?_ | refine Br.eqi ?_ ?_) <;> intro h <;> try (exfalso; omega)) | (simp (disch := (first | omega | (simp only [vlen]; first | done | omega))) only [↓vAq, vBq, ↓reduceIte, Nat.reduceBEq, Nat.reduceEqDiff, Nat.reduceLT, Nat.reduceLeDiff, Nat.reduceAdd, Nat.reduceMul, Nat.reduceSub, reduceCtorEq, Int.reduceToNat]) | (refine Br.mk ?_ ?_ <;> intro h) | (refine BrN.mk (fun h => ?_) ?_) | (refine AltVC.mk ?_ ?_)
  refine LoopVC.mk (X := Nat) (fun i => [(9, iv .i64 i)]) (fun _ => [(0, ⟨4, [[iv .i64 g.k, iv .i64 g.n, iv .i64 g.start, .sl 2 (tbl rulD g.rules)]], true, false, .fix⟩)]) (fun i => l.length - i) (fun i => i ≤ l.length ∧ ∀ j, j < i → isSign g (l.getD j 0) = true) 0 ⟨by omega, by omega⟩ ?_ ?_
  · (simp (disch := (first | omega | (simp only [vlen]; first | done | omega))) only [Fits_u, Fits_m, Fits_nil, List.length_append, ↓vAq, vBq, ↓reduceIte, Nat.reduceBEq, Nat.reduceEqDiff, Nat.reduceLT, Nat.reduceLeDiff, Nat.reduceAdd, Nat.reduceMul, Nat.reduceSub, reduceCtorEq, Int.reduceToNat] <;> (repeat' first | rfl | apply And.intro))
  · rintro i ⟨hi, hb⟩
    repeat' first | ((first | refine Br.dec ?_ ?_ | refine Br.eqi ?_ ?_) <;> intro h <;> try (exfalso; omega)) | (simp (disch := (first | omega | (simp only [vlen]; first | done | omega))) only [↓vAq, vBq, ↓reduceIte, Nat.reduceBEq, Nat.reduceEqDiff, Nat.reduceLT, Nat.reduceLeDiff, Nat.reduceAdd, Nat.reduceMul, Nat.reduceSub, reduceCtorEq, Int.reduceToNat]) | (refine Br.mk ?_ ?_ <;> intro h) | (refine BrN.mk (fun h => ?_) ?_) | (refine AltVC.mk ?_ ?_)
    · exact fin_mk (vbEq (all_hit (p := isSign g) (l := l) (i := i) (by omega) (decide_eq_false (by show ¬ (0 ≤ l.getD i 0 ∧ l.getD i 0 < g.k + g.n); omega))).symm)
    · exact fin_mk (vbEq (all_hit (p := isSign g) (l := l) (i := i) (by omega) (decide_eq_false (by show ¬ (0 ≤ l.getD i 0 ∧ l.getD i 0 < g.k + g.n); omega))).symm)
    · refine loopK.mk (i + 1) (by simp (disch := (first | omega | (simp only [vlen]; first | done | omega))) only [↓vAq, vBq, ↓reduceIte, Nat.reduceBEq, Nat.reduceEqDiff, Nat.reduceLT, Nat.reduceLeDiff, Nat.reduceAdd, Nat.reduceMul, Nat.reduceSub, reduceCtorEq, Int.reduceToNat]) ⟨by omega, succ_all hb (decide_eq_true (by omega))⟩ (by omega) (by (simp (disch := (first | omega | (simp only [vlen]; first | done | omega))) only [Fits_u, Fits_m, Fits_nil, List.length_append, ↓vAq, vBq, ↓reduceIte, Nat.reduceBEq, Nat.reduceEqDiff, Nat.reduceLT, Nat.reduceLeDiff, Nat.reduceAdd, Nat.reduceMul, Nat.reduceSub, reduceCtorEq, Int.reduceToNat] <;> (repeat' first | rfl | apply And.intro)))
    · exact fin_mk (vbEq (all_none (i := i) (by omega) hb).symm)
set_option maxRecDepth 10000 in
set_option maxHeartbeats 4000000 in
theorem refGCheck_spec (g : Grammar) (hg : g.ok) : Dm.Spec Try.prog 18 [.ag (graD g)] (· = iv .i64 (gcode g)) := by
  refine spec_of_vc mixed Try.func18 c18 (by rw [show Try.f18.ntmps = _ from Try.ntmps18]; simp) ?_
  unfold m18 r18
  have hr : g.rules.length ≤ 9223372036854775807 := maxLen_le hg.2.2.2.1
  have hk : -9223372036854775808 ≤ g.k ∧ g.k ≤ 9223372036854775807 := hg.1
  have hn : -9223372036854775808 ≤ g.n ∧ g.n ≤ 9223372036854775807 := hg.2.1
  have hq : ∀ r, r ∈ g.rules → r.right.length ≤ 9223372036854775807 := fun r h => maxLen_le (hg.2.2.2.2 r h).2.1
  have r1 : ¬ (1 ≤ g.k ∧ g.k ≤ 3) ∨ ¬ (1 ≤ g.n ∧ g.n ≤ 5) ∨ 10 < g.rules.length → gcode g = 1 := fun h => by rw [gcode, if_pos h]
  repeat' first | ((first | refine Br.dec ?_ ?_ | refine Br.eqi ?_ ?_) <;> intro h <;> try (exfalso; omega)) | (simp (disch := (first | omega | (simp only [vlen]; first | done | omega))) only [↓vAq, vBq, ↓reduceIte, Nat.reduceBEq, Nat.reduceEqDiff, Nat.reduceLT, Nat.reduceLeDiff, Nat.reduceAdd, Nat.reduceMul, Nat.reduceSub, reduceCtorEq, Int.reduceToNat]) | (refine Br.mk ?_ ?_ <;> intro h) | (refine BrN.mk (fun h => ?_) ?_) | (refine AltVC.mk ?_ ?_)
  all_goals first | exact fin_mk (by rw [r1 (by omega)]) | skip
  refine LoopVC.mk (X := Nat) (fun i => [(34, iv .i64 i)]) (fun _ => [(0, ⟨4, [[iv .i64 g.k, iv .i64 g.n, iv .i64 g.start, .sl 2 (tbl rulD g.rules)]], true, false, .fix⟩)]) (fun i => g.rules.length - i) (fun i => i ≤ g.rules.length ∧ ∀ j, j < i → decide (4 < (g.rules.getD j default).right.length) = false) 0 ⟨by omega, by omega⟩ ?_ ?_
  · (simp (disch := (first | omega | (simp only [vlen]; first | done | omega))) only [Fits_u, Fits_m, Fits_nil, List.length_append, ↓vAq, vBq, ↓reduceIte, Nat.reduceBEq, Nat.reduceEqDiff, Nat.reduceLT, Nat.reduceLeDiff, Nat.reduceAdd, Nat.reduceMul, Nat.reduceSub, reduceCtorEq, Int.reduceToNat] <;> (repeat' first | rfl | apply And.intro))
  · rintro i ⟨hi, hb⟩
    repeat' first | ((first | refine Br.dec ?_ ?_ | refine Br.eqi ?_ ?_) <;> intro h <;> try (exfalso; omega)) | (simp (disch := (first | omega | (simp only [vlen]; first | done | omega))) only [↓vAq, vBq, ↓reduceIte, Nat.reduceBEq, Nat.reduceEqDiff, Nat.reduceLT, Nat.reduceLeDiff, Nat.reduceAdd, Nat.reduceMul, Nat.reduceSub, reduceCtorEq, Int.reduceToNat]) | (refine Br.mk ?_ ?_ <;> intro h) | (refine BrN.mk (fun h => ?_) ?_) | (refine AltVC.mk ?_ ?_)
    · exact fin_mk (by rw [gcode, if_neg (by omega), if_pos (any_hit (p := fun r : Rule => decide (4 < r.right.length)) (l := g.rules) (i := i) (by omega) (decide_eq_true (by omega)))])
    · refine loopK.mk (i + 1) (by simp (disch := (first | omega | (simp only [vlen]; first | done | omega))) only [↓vAq, vBq, ↓reduceIte, Nat.reduceBEq, Nat.reduceEqDiff, Nat.reduceLT, Nat.reduceLeDiff, Nat.reduceAdd, Nat.reduceMul, Nat.reduceSub, reduceCtorEq, Int.reduceToNat]) ⟨by omega, succ_all hb (decide_eq_false (by omega))⟩ (by omega) (by (simp (disch := (first | omega | (simp only [vlen]; first | done | omega))) only [Fits_u, Fits_m, Fits_nil, List.length_append, ↓vAq, vBq, ↓reduceIte, Nat.reduceBEq, Nat.reduceEqDiff, Nat.reduceLT, Nat.reduceLeDiff, Nat.reduceAdd, Nat.reduceMul, Nat.reduceSub, reduceCtorEq, Int.reduceToNat] <;> (repeat' first | rfl | apply And.intro)))
    · exact fin_mk (by rw [gcode, if_neg (by omega), if_neg (by rw [any_none (i := i) (by omega) hb]; simp), if_pos (by omega)])
    · exact fin_mk (by rw [gcode, if_neg (by omega), if_neg (by rw [any_none (i := i) (by omega) hb]; simp), if_pos (by omega)])
    · have h4 := any_none (p := fun r : Rule => decide (4 < r.right.length)) (i := i) (l := g.rules) (by omega) hb
      refine LoopVC.mk (X := Nat) (fun i => [(56, iv .i64 i)]) (fun _ => [(0, ⟨4, [[iv .i64 g.k, iv .i64 g.n, iv .i64 g.start, .sl 2 (tbl rulD g.rules)]], true, false, .fix⟩)]) (fun i => g.rules.length - i) (fun i => i ≤ g.rules.length ∧ ∀ j, j < i → badRule g (g.rules.getD j default) = false) 0 ⟨by omega, by omega⟩ ?_ ?_
      · (simp (disch := (first | omega | (simp only [vlen]; first | done | omega))) only [Fits_u, Fits_m, Fits_nil, List.length_append, ↓vAq, vBq, ↓reduceIte, Nat.reduceBEq, Nat.reduceEqDiff, Nat.reduceLT, Nat.reduceLeDiff, Nat.reduceAdd, Nat.reduceMul, Nat.reduceSub, reduceCtorEq, Int.reduceToNat] <;> (repeat' first | rfl | apply And.intro))
      · rintro k ⟨hk1, hb1⟩
        repeat' first | ((first | refine Br.dec ?_ ?_ | refine Br.eqi ?_ ?_) <;> intro h <;> try (exfalso; omega)) | (simp (disch := (first | omega | (simp only [vlen]; first | done | omega))) only [↓vAq, vBq, ↓reduceIte, Nat.reduceBEq, Nat.reduceEqDiff, Nat.reduceLT, Nat.reduceLeDiff, Nat.reduceAdd, Nat.reduceMul, Nat.reduceSub, reduceCtorEq, Int.reduceToNat]) | (refine Br.mk ?_ ?_ <;> intro h) | (refine BrN.mk (fun h => ?_) ?_) | (refine AltVC.mk ?_ ?_)
        · exact fin_mk (by rw [gcode_b, if_neg (by omega), if_neg (by rw [h4]; simp), if_neg (by omega), if_pos (any_hit (i := k) (by omega) (by rw [badRule, decide_eq_false (by omega)]; rfl))])
        · exact fin_mk (by rw [gcode_b, if_neg (by omega), if_neg (by rw [h4]; simp), if_neg (by omega), if_pos (any_hit (i := k) (by omega) (by rw [badRule, decide_eq_false (by omega)]; rfl))])
        · have hm : g.rules.getD k default ∈ g.rules := getD_mem' (by omega)
          refine CallVC.eq (signs_spec g (by omega) (by omega) _ (hq _ hm)) ?_
          repeat' first | ((first | refine Br.dec ?_ ?_ | refine Br.eqi ?_ ?_) <;> intro h <;> try (exfalso; omega)) | (simp (disch := (first | omega | (simp only [vlen]; first | done | omega))) only [↓vAq, vBq, ↓reduceIte, Nat.reduceBEq, Nat.reduceEqDiff, Nat.reduceLT, Nat.reduceLeDiff, Nat.reduceAdd, Nat.reduceMul, Nat.reduceSub, reduceCtorEq, Int.reduceToNat]) | (refine Br.mk ?_ ?_ <;> intro h) | (refine BrN.mk (fun h => ?_) ?_) | (refine AltVC.mk ?_ ?_)
          · have e : isSigns g (g.rules.getD k default).right = true := by assumption
            refine loopK.mk (k + 1) (by simp (disch := (first | omega | (simp only [vlen]; first | done | omega))) only [↓vAq, vBq, ↓reduceIte, Nat.reduceBEq, Nat.reduceEqDiff, Nat.reduceLT, Nat.reduceLeDiff, Nat.reduceAdd, Nat.reduceMul, Nat.reduceSub, reduceCtorEq, Int.reduceToNat]) ⟨by omega, succ_all hb1 (by rw [badRule, e, decide_eq_true (by omega)]; rfl)⟩ (by omega) (by (simp (disch := (first | omega | (simp only [vlen]; first | done | omega))) only [Fits_u, Fits_m, Fits_nil, List.length_append, ↓vAq, vBq, ↓reduceIte, Nat.reduceBEq, Nat.reduceEqDiff, Nat.reduceLT, Nat.reduceLeDiff, Nat.reduceAdd, Nat.reduceMul, Nat.reduceSub, reduceCtorEq, Int.reduceToNat] <;> (repeat' first | rfl | apply And.intro)))
          · have e : isSigns g (g.rules.getD k default).right = false := by assumption
            exact fin_mk (by rw [gcode_b, if_neg (by omega), if_neg (by rw [h4]; simp), if_neg (by omega), if_pos (any_hit (i := k) (by omega) (by rw [badRule, e]; simp))])
        · exact fin_mk (by rw [gcode_b, if_neg (by omega), if_neg (by rw [h4]; simp), if_neg (by omega), if_neg (by rw [any_none (i := k) (by omega) hb1]; simp)])
end Go.Proofs.Ytjekkbpdgnohcaa
