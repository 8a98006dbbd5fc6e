/-
  ahead.Clear, coppicerref.Clear; the law AheadClears.
-/
import Derived.Test.YtplkkacfjepgpaaAheadG
set_option linter.unusedVariables false
set_option linter.unusedSimpArgs false
set_option linter.unnecessarySimpa false
namespace Go.Proofs.Ytplkkacfjepgpaa
open Go.Dm
set_option linter.defProp false
noncomputable def lk (g : Grammar) (N : Nat) (r : Rule) : Nat := fstS g N r.right ||| (if emp g N r.right then folS g N r.left.toNat else 0)
theorem fstS_lt {g : Grammar} {N : Nat} {l : List Int} : fstS g N l < 2 ^ 3 := setOf_lt
theorem folS_lt {g : Grammar} {N i : Nat} : folS g N i < 2 ^ 4 := setOf_lt
theorem lk_lt {g : Grammar} {N : Nat} {r : Rule} : lk g N r < 2 ^ 4 := by
  unfold lk
  refine Nat.or_lt_two_pow (Nat.lt_trans fstS_lt (by decide)) ?_
  split
  · exact folS_lt
  · exact Nat.pow_pos (by omega)
theorem fstL_bit {g : Grammar} (hv : Valid g) {N n x : Nat} : ((fstL g N).getD n default).testBit x = true ↔ n < g.n.toNat ∧ Fst g N n x := by
  by_cases h : n < g.n.toNat
  · rw [fstL_get h]
    constructor
    · intro hb
      have hx : x < 3 := by
        rcases Nat.lt_or_ge x 3 with h' | h'
        · exact h'
        · rw [Nat.testBit_lt_two_pow (Nat.lt_of_lt_of_le fstS_lt (Nat.pow_le_pow_right (by omega) h'))] at hb; cases hb
      exact ⟨h, fstL_one.1 ((fstS_bit hx).1 hb)⟩
    · intro hf
      exact (fstS_bit (fst_lt hv hf.2)).2 (fstL_one.2 hf.2)
  · have : (fstL g N).getD n default = 0 := by rw [List.getD_eq_getElem?_getD, List.getElem?_eq_none (by rw [fstL_len]; omega)]; rfl
    rw [this]
    simp [h]
theorem bits_eq {m a b : Nat} (ha : a < 2 ^ m) (hb : b < 2 ^ m) (h : ∀ x, x < m → (a.testBit x = true ↔ b.testBit x = true)) : a = b := by
  apply Nat.eq_of_testBit_eq
  intro x
  rcases Nat.lt_or_ge x m with hx | hx
  · rw [Bool.eq_iff_iff]; exact h x hx
  · rw [Nat.testBit_lt_two_pow (Nat.lt_of_lt_of_le ha (Nat.pow_le_pow_right (by omega) hx)), Nat.testBit_lt_two_pow (Nat.lt_of_lt_of_le hb (Nat.pow_le_pow_right (by omega) hx))]
theorem beg_is {g : Grammar} (hv : Valid g) {N : Nat} {l : List Int} (hs : ∀ y, y ∈ l → 0 ≤ y ∧ y < g.k + g.n) : beg g (fstL g N) N l = fstS g N l := by
  have hk := hv.k
  refine bits_eq (beg_lt sm_fstL (by omega) fun y hy => (hs y hy).1) fstS_lt fun x hx => ?_
  rw [beg_bit, fstS_bit hx]
  unfold FstL
  constructor
  · rintro ⟨y, hy, h⟩
    refine ⟨y, hy, h.imp id fun ⟨h1, h2⟩ => ⟨h1, ?_⟩⟩
    exact ((fstL_bit hv).1 h2).2
  · rintro ⟨y, hy, h⟩
    refine ⟨y, hy, h.imp id fun ⟨h1, h2⟩ => ⟨h1, (fstL_bit hv).2 ⟨?_, h2⟩⟩⟩
    have := hs y (hds_sub hy)
    omega
set_option maxRecDepth 10000 in
set_option maxHeartbeats 4000000 in
theorem look_spec (g : Grammar) (hv : Valid g) (N : Nat) (hN : N < 2 ^ g.n.toNat) (r : Rule) (hr : r ∈ g.rules) : Dm.Spec Try.prog 47 [.ip (setsD g (fstL g N) (folL g N) N) 0, .ag (rulD r)] (· = iv .u32 (lk g N r)) := by
  refine spec_of_vc mixed Try.func47 c47 (by rw [show Try.f47.ntmps = _ from Try.ntmps47]; simp) ?_
  unfold m47 r47
  have hk := hv.k
  have hn := hv.n
  have hl := hv.left r hr
  have hs := hv.right r hr
  have hbeg := begins_spec g hv (fstL g N) (folL g N) N sm_fstL fstL_len hN r.right (by have := hv.long r hr; omega) hs
  rw [beg_is hv hs] at hbeg
  have hget := folL_get (g := g) (N := N) (i := r.left.toNat) (by omega)
  have hlen := @folL_len g N
  have hlk : lk g N r = fstS g N r.right ||| (if emp g N r.right then folS g N r.left.toNat else 0) := rfl
  have f1 := p16 (fstS_lt (g := g) (N := N) (l := r.right)) (by omega)
  have f2 := p16 (folS_lt (g := g) (N := N) (i := r.left.toNat)) (by omega)
  have hor := orN (S := fstS g N r.right) (T := folS g N r.left.toNat) (by omega) (by omega)
  unfold setsD at hbeg
  cases he : emp g N r.right with
  | true =>
    rw [he, if_pos rfl] at hlk
    rw [he] at hbeg
    repeat' first | ((first | refine Br.dec ?_ ?_ | refine Br.eqi ?_ ?_) <;> intro h <;> try (exfalso; omega)) | (simp (disch := (first | omega | (simp only [vlen]; first | done | omega))) only [vac, ↓vAq, vBq, ↓reduceIte, Nat.reduceBEq, Nat.reduceEqDiff, Nat.reduceLT, Nat.reduceLeDiff, Nat.reduceAdd, Nat.reduceMul, Nat.reduceSub, reduceCtorEq, Int.reduceToNat]) | (refine Br.mk ?_ ?_ <;> intro h) | (refine BrN.mk (fun h => ?_) ?_) | (refine AltVC.mk ?_ ?_)
    refine CallVC.eq hbeg ?_
    repeat' first | ((first | refine Br.dec ?_ ?_ | refine Br.eqi ?_ ?_) <;> intro h <;> try (exfalso; omega)) | (simp (disch := (first | omega | (simp only [vlen]; first | done | omega))) only [vac, hlen, hget, ↓vAq, vBq, ↓reduceIte, Nat.reduceBEq, Nat.reduceEqDiff, Nat.reduceLT, Nat.reduceLeDiff, Nat.reduceAdd, Nat.reduceMul, Nat.reduceSub, reduceCtorEq, Int.reduceToNat]) | (refine Br.mk ?_ ?_ <;> intro h) | (refine BrN.mk (fun h => ?_) ?_) | (refine AltVC.mk ?_ ?_)
    rw [hor]
    exact fin_mk (by rw [hlk])
  | false =>
    rw [he, if_neg (by simp), Nat.or_zero] at hlk
    rw [he] at hbeg
    repeat' first | ((first | refine Br.dec ?_ ?_ | refine Br.eqi ?_ ?_) <;> intro h <;> try (exfalso; omega)) | (simp (disch := (first | omega | (simp only [vlen]; first | done | omega))) only [vac, ↓vAq, vBq, ↓reduceIte, Nat.reduceBEq, Nat.reduceEqDiff, Nat.reduceLT, Nat.reduceLeDiff, Nat.reduceAdd, Nat.reduceMul, Nat.reduceSub, reduceCtorEq, Int.reduceToNat]) | (refine Br.mk ?_ ?_ <;> intro h) | (refine BrN.mk (fun h => ?_) ?_) | (refine AltVC.mk ?_ ?_)
    refine CallVC.eq hbeg ?_
    repeat' first | ((first | refine Br.dec ?_ ?_ | refine Br.eqi ?_ ?_) <;> intro h <;> try (exfalso; omega)) | (simp (disch := (first | omega | (simp only [vlen]; first | done | omega))) only [vac, hlen, hget, ↓vAq, vBq, ↓reduceIte, Nat.reduceBEq, Nat.reduceEqDiff, Nat.reduceLT, Nat.reduceLeDiff, Nat.reduceAdd, Nat.reduceMul, Nat.reduceSub, reduceCtorEq, Int.reduceToNat]) | (refine Br.mk ?_ ?_ <;> intro h) | (refine BrN.mk (fun h => ?_) ?_) | (refine AltVC.mk ?_ ?_)
    exact fin_mk (by rw [hlk])
set_option maxRecDepth 10000 in
set_option maxHeartbeats 4000000 in
theorem looks_spec (g : Grammar) (hv : Valid g) (r : Rule) (hr : r ∈ g.rules) : Dm.Spec Try.prog 44 [.ag (graD g), .ag (rulD r)] (· = iv .u32 (lk g (nameSet g true) r)) := by
  refine spec_of_vc mixed Try.func44 c44 (by rw [show Try.f44.ntmps = _ from Try.ntmps44]; simp) ?_
  unfold m44 r44
  have hl := hv.left r hr
  have hs := hv.right r hr
  have hlong := hv.long r hr
  have hf := firsts_spec g hv r.right (by omega) hs
  have hgo := gone_spec g hv r.right (by omega) hs
  have hfo := followOf_spec g hv r.left.toNat (by omega)
  rw [Int.toNat_of_nonneg hl.1] at hfo
  generalize hNe : nameSet g true = N at hf hgo hfo ⊢
  have hlk : lk g N r = fstS g N r.right ||| (if emp g N r.right then folS g N r.left.toNat else 0) := rfl
  have f1 := p16 (fstS_lt (g := g) (N := N) (l := r.right)) (by omega)
  have f2 := p16 (folS_lt (g := g) (N := N) (i := r.left.toNat)) (by omega)
  have hor := orN (S := fstS g N r.right) (T := folS g N r.left.toNat) (by omega) (by omega)
  cases he : emp g N r.right with
  | true =>
    rw [he, if_pos rfl] at hlk
    rw [he] at hgo
    repeat' first | ((first | refine Br.dec ?_ ?_ | refine Br.eqi ?_ ?_) <;> intro h <;> try (exfalso; omega)) | (simp (disch := (first | omega | (simp only [vlen]; first | done | omega))) only [vac, ↓vAq, vBq, ↓reduceIte, Nat.reduceBEq, Nat.reduceEqDiff, Nat.reduceLT, Nat.reduceLeDiff, Nat.reduceAdd, Nat.reduceMul, Nat.reduceSub, reduceCtorEq, Int.reduceToNat]) | (refine Br.mk ?_ ?_ <;> intro h) | (refine BrN.mk (fun h => ?_) ?_) | (refine AltVC.mk ?_ ?_)
    refine CallVC.eq hf ?_
    repeat' first | ((first | refine Br.dec ?_ ?_ | refine Br.eqi ?_ ?_) <;> intro h <;> try (exfalso; omega)) | (simp (disch := (first | omega | (simp only [vlen]; first | done | omega))) only [vac, ↓vAq, vBq, ↓reduceIte, Nat.reduceBEq, Nat.reduceEqDiff, Nat.reduceLT, Nat.reduceLeDiff, Nat.reduceAdd, Nat.reduceMul, Nat.reduceSub, reduceCtorEq, Int.reduceToNat]) | (refine Br.mk ?_ ?_ <;> intro h) | (refine BrN.mk (fun h => ?_) ?_) | (refine AltVC.mk ?_ ?_)
    refine CallVC.eq hgo ?_
    repeat' first | ((first | refine Br.dec ?_ ?_ | refine Br.eqi ?_ ?_) <;> intro h <;> try (exfalso; omega)) | (simp (disch := (first | omega | (simp only [vlen]; first | done | omega))) only [vac, ↓vAq, vBq, ↓reduceIte, Nat.reduceBEq, Nat.reduceEqDiff, Nat.reduceLT, Nat.reduceLeDiff, Nat.reduceAdd, Nat.reduceMul, Nat.reduceSub, reduceCtorEq, Int.reduceToNat]) | (refine Br.mk ?_ ?_ <;> intro h) | (refine BrN.mk (fun h => ?_) ?_) | (refine AltVC.mk ?_ ?_)
    refine CallVC.eq hfo ?_
    repeat' first | ((first | refine Br.dec ?_ ?_ | refine Br.eqi ?_ ?_) <;> intro h <;> try (exfalso; omega)) | (simp (disch := (first | omega | (simp only [vlen]; first | done | omega))) only [vac, ↓vAq, vBq, ↓reduceIte, Nat.reduceBEq, Nat.reduceEqDiff, Nat.reduceLT, Nat.reduceLeDiff, Nat.reduceAdd, Nat.reduceMul, Nat.reduceSub, reduceCtorEq, Int.reduceToNat]) | (refine Br.mk ?_ ?_ <;> intro h) | (refine BrN.mk (fun h => ?_) ?_) | (refine AltVC.mk ?_ ?_)
    rw [hor]
    exact fin_mk (by rw [hlk])
  | false =>
    rw [he, if_neg (by simp), Nat.or_zero] at hlk
    rw [he] at hgo
    repeat' first | ((first | refine Br.dec ?_ ?_ | refine Br.eqi ?_ ?_) <;> intro h <;> try (exfalso; omega)) | (simp (disch := (first | omega | (simp only [vlen]; first | done | omega))) only [vac, ↓vAq, vBq, ↓reduceIte, Nat.reduceBEq, Nat.reduceEqDiff, Nat.reduceLT, Nat.reduceLeDiff, Nat.reduceAdd, Nat.reduceMul, Nat.reduceSub, reduceCtorEq, Int.reduceToNat]) | (refine Br.mk ?_ ?_ <;> intro h) | (refine BrN.mk (fun h => ?_) ?_) | (refine AltVC.mk ?_ ?_)
    refine CallVC.eq hf ?_
    repeat' first | ((first | refine Br.dec ?_ ?_ | refine Br.eqi ?_ ?_) <;> intro h <;> try (exfalso; omega)) | (simp (disch := (first | omega | (simp only [vlen]; first | done | omega))) only [vac, ↓vAq, vBq, ↓reduceIte, Nat.reduceBEq, Nat.reduceEqDiff, Nat.reduceLT, Nat.reduceLeDiff, Nat.reduceAdd, Nat.reduceMul, Nat.reduceSub, reduceCtorEq, Int.reduceToNat]) | (refine Br.mk ?_ ?_ <;> intro h) | (refine BrN.mk (fun h => ?_) ?_) | (refine AltVC.mk ?_ ?_)
    refine CallVC.eq hgo ?_
    repeat' first | ((first | refine Br.dec ?_ ?_ | refine Br.eqi ?_ ?_) <;> intro h <;> try (exfalso; omega)) | (simp (disch := (first | omega | (simp only [vlen]; first | done | omega))) only [vac, ↓vAq, vBq, ↓reduceIte, Nat.reduceBEq, Nat.reduceEqDiff, Nat.reduceLT, Nat.reduceLeDiff, Nat.reduceAdd, Nat.reduceMul, Nat.reduceSub, reduceCtorEq, Int.reduceToNat]) | (refine Br.mk ?_ ?_ <;> intro h) | (refine BrN.mk (fun h => ?_) ?_) | (refine AltVC.mk ?_ ?_)
    exact fin_mk (by rw [hlk])
theorem and_zero {a b : Nat} (h : ∀ x, a.testBit x = true → b.testBit x = true → False) : a &&& b = 0 := by
  apply Nat.eq_of_testBit_eq
  intro x
  rw [Nat.testBit_and, Nat.zero_testBit]
  cases ha : a.testBit x with
  | false => rfl
  | true =>
    cases hb : b.testBit x with
    | false => rfl
    | true => exact (h x ha hb).elim
theorem and_bit {a b x : Nat} (h : a &&& b = 0) (ha : a.testBit x = true) (hb : b.testBit x = true) : False := by
  have : (a &&& b).testBit x = true := by rw [Nat.testBit_and, ha, hb]; rfl
  rw [h, Nat.zero_testBit] at this; cases this
def ClrAt (g : Grammar) (N : Nat) (i j : Nat) : Prop := (g.rules.getD i default).left = (g.rules.getD j default).left → lk g N (g.rules.getD i default) &&& lk g N (g.rules.getD j default) = 0
def Clr (g : Grammar) (N : Nat) (n : Nat) : Prop := ∀ i, i < n → ∀ j, j < i → ClrAt g N i j
set_option maxRecDepth 10000 in
set_option maxHeartbeats 4000000 in
theorem refClear_spec (g : Grammar) (hv : Valid g) : Dm.Spec Try.prog 18 [.ag (graD g)] (fun d => ∃ b, d = .v (.bool b) ∧ (b = true ↔ Clr g (nameSet g true) g.rules.length)) := by
  refine spec_of_vc mixed Try.func18 c18 (by rw [show Try.f18.ntmps = _ from Try.ntmps18]; simp) ?_
  unfold m18 r18
  have hlen := hv.len
  have hlooks := fun (i : Nat) (hi : i < g.rules.length) => looks_spec g hv (g.rules.getD i default) (getD_mem' hi)
  generalize hNe : nameSet g true = N at hlooks ⊢
  repeat' first | ((first | refine Br.dec ?_ ?_ | refine Br.eqi ?_ ?_) <;> intro h <;> try (exfalso; omega)) | (simp (disch := (first | omega | (simp only [vlen]; first | done | omega))) only [vac, ↓vAq, vBq, ↓reduceIte, Nat.reduceBEq, Nat.reduceEqDiff, Nat.reduceLT, Nat.reduceLeDiff, Nat.reduceAdd, Nat.reduceMul, Nat.reduceSub, reduceCtorEq, Int.reduceToNat]) | (refine Br.mk ?_ ?_ <;> intro h) | (refine BrN.mk (fun h => ?_) ?_) | (refine AltVC.mk ?_ ?_)
  refine LoopVC.mk (X := Nat) (fun i => [(3, iv .i64 i)]) (fun _ => [(0, gOb g)]) (fun i => g.rules.length - i) (fun i => i ≤ g.rules.length ∧ Clr g N i) 0 ⟨by simp, fun a ha => by simp at ha⟩ ?_ ?_
  · (simp (disch := (first | omega | (simp only [vlen]; first | done | omega))) only [Fits_u, Fits_m, Fits_nil, List.length_append, vac, ↓vAq, vBq, ↓reduceIte, Nat.reduceBEq, Nat.reduceEqDiff, Nat.reduceLT, Nat.reduceLeDiff, Nat.reduceAdd, Nat.reduceMul, Nat.reduceSub, reduceCtorEq, Int.reduceToNat] <;> (repeat' first | rfl | apply And.intro))
  · rintro i ⟨h1, h2⟩
    by_cases hi : i < g.rules.length
    · repeat' first | ((first | refine Br.dec ?_ ?_ | refine Br.eqi ?_ ?_) <;> intro h <;> try (exfalso; omega)) | (simp (disch := (first | omega | (simp only [vlen]; first | done | omega))) only [vac, ↓vAq, vBq, ↓reduceIte, Nat.reduceBEq, Nat.reduceEqDiff, Nat.reduceLT, Nat.reduceLeDiff, Nat.reduceAdd, Nat.reduceMul, Nat.reduceSub, reduceCtorEq, Int.reduceToNat]) | (refine Br.mk ?_ ?_ <;> intro h) | (refine BrN.mk (fun h => ?_) ?_) | (refine AltVC.mk ?_ ?_)
      refine LoopVC.mk (X := Nat) (fun j => [(4, iv .i64 j)]) (fun _ => [(0, gOb g)]) (fun j => i - j) (fun j => j ≤ i ∧ ∀ a, a < j → ClrAt g N i a) 0 ⟨by simp, fun a ha => by simp at ha⟩ ?_ ?_
      · (simp (disch := (first | omega | (simp only [vlen]; first | done | omega))) only [Fits_u, Fits_m, Fits_nil, List.length_append, vac, ↓vAq, vBq, ↓reduceIte, Nat.reduceBEq, Nat.reduceEqDiff, Nat.reduceLT, Nat.reduceLeDiff, Nat.reduceAdd, Nat.reduceMul, Nat.reduceSub, reduceCtorEq, Int.reduceToNat] <;> (repeat' first | rfl | apply And.intro))
      · rintro j ⟨k1, k2⟩
        have hlen2 := hi
        by_cases hj : j < i
        · have l1 := hlooks i hi
          have l2 := hlooks j (by omega)
          have b1 := p16 (lk_lt (g := g) (N := N) (r := g.rules.getD i default)) (by omega)
          have b2 := p16 (lk_lt (g := g) (N := N) (r := g.rules.getD j default)) (by omega)
          have hand := andN (S := lk g N (g.rules.getD i default)) (T := lk g N (g.rules.getD j default)) (by omega) (by omega)
          have hat : ClrAt g N i j ↔ ((g.rules.getD i default).left = (g.rules.getD j default).left → lk g N (g.rules.getD i default) &&& lk g N (g.rules.getD j default) = 0) := Iff.rfl
          repeat' first | ((first | refine Br.dec ?_ ?_ | refine Br.eqi ?_ ?_) <;> intro h <;> try (exfalso; omega)) | (simp (disch := (first | omega | (simp only [vlen]; first | done | omega))) only [vac, ↓vAq, vBq, ↓reduceIte, Nat.reduceBEq, Nat.reduceEqDiff, Nat.reduceLT, Nat.reduceLeDiff, Nat.reduceAdd, Nat.reduceMul, Nat.reduceSub, reduceCtorEq, Int.reduceToNat]) | (refine Br.mk ?_ ?_ <;> intro h) | (refine BrN.mk (fun h => ?_) ?_) | (refine AltVC.mk ?_ ?_)
          · refine CallP.eq l1 (fun h => by cases h) ?_
            repeat' first | ((first | refine Br.dec ?_ ?_ | refine Br.eqi ?_ ?_) <;> intro h <;> try (exfalso; omega)) | (simp (disch := (first | omega | (simp only [vlen]; first | done | omega))) only [vac, ↓vAq, vBq, ↓reduceIte, Nat.reduceBEq, Nat.reduceEqDiff, Nat.reduceLT, Nat.reduceLeDiff, Nat.reduceAdd, Nat.reduceMul, Nat.reduceSub, reduceCtorEq, Int.reduceToNat]) | (refine Br.mk ?_ ?_ <;> intro h) | (refine BrN.mk (fun h => ?_) ?_) | (refine AltVC.mk ?_ ?_)
            refine CallP.eq l2 (fun h => by cases h) ?_
            repeat' first | ((first | refine Br.dec ?_ ?_ | refine Br.eqi ?_ ?_) <;> intro h <;> try (exfalso; omega)) | (simp (disch := (first | omega | (simp only [vlen]; first | done | omega))) only [vac, hand, ↓vAq, vBq, ↓reduceIte, Nat.reduceBEq, Nat.reduceEqDiff, Nat.reduceLT, Nat.reduceLeDiff, Nat.reduceAdd, Nat.reduceMul, Nat.reduceSub, reduceCtorEq, Int.reduceToNat]) | (refine Br.mk ?_ ?_ <;> intro h) | (refine BrN.mk (fun h => ?_) ?_) | (refine AltVC.mk ?_ ?_)
            · have hz : lk g N (g.rules.getD i default) &&& lk g N (g.rules.getD j default) = 0 := by omega
              exact loopK.mk (j + 1) (by simp (disch := (first | omega | (simp only [vlen]; first | done | omega))) only [↓vAq, vBq, ↓reduceIte, Nat.reduceBEq, Nat.reduceEqDiff, Nat.reduceLT, Nat.reduceLeDiff, Nat.reduceAdd, Nat.reduceMul, Nat.reduceSub, reduceCtorEq, Int.reduceToNat]) ⟨by omega, fun a ha => by
                rcases Nat.lt_or_ge a j with q | q
                · exact k2 a q
                · have : a = j := by omega
                  subst this
                  exact fun _ => hz⟩ (by omega) (by (simp (disch := (first | omega | (simp only [vlen]; first | done | omega))) only [Fits_u, Fits_m, Fits_nil, List.length_append, vac, ↓vAq, vBq, ↓reduceIte, Nat.reduceBEq, Nat.reduceEqDiff, Nat.reduceLT, Nat.reduceLeDiff, Nat.reduceAdd, Nat.reduceMul, Nat.reduceSub, reduceCtorEq, Int.reduceToNat] <;> (repeat' first | rfl | apply And.intro)))
            · refine fin_mk ⟨false, rfl, ⟨fun h => (by cases h), fun hcl => ?_⟩⟩
              exfalso
              have := hcl i hi j hj (by assumption)
              omega
          · exact loopK.mk (j + 1) (by simp (disch := (first | omega | (simp only [vlen]; first | done | omega))) only [↓vAq, vBq, ↓reduceIte, Nat.reduceBEq, Nat.reduceEqDiff, Nat.reduceLT, Nat.reduceLeDiff, Nat.reduceAdd, Nat.reduceMul, Nat.reduceSub, reduceCtorEq, Int.reduceToNat]) ⟨by omega, fun a ha => by
              rcases Nat.lt_or_ge a j with q | q
              · exact k2 a q
              · have : a = j := by omega
                subst this
                exact fun e => absurd e (by assumption)⟩ (by omega) (by (simp (disch := (first | omega | (simp only [vlen]; first | done | omega))) only [Fits_u, Fits_m, Fits_nil, List.length_append, vac, ↓vAq, vBq, ↓reduceIte, Nat.reduceBEq, Nat.reduceEqDiff, Nat.reduceLT, Nat.reduceLeDiff, Nat.reduceAdd, Nat.reduceMul, Nat.reduceSub, reduceCtorEq, Int.reduceToNat] <;> (repeat' first | rfl | apply And.intro)))
        · repeat' first | ((first | refine Br.dec ?_ ?_ | refine Br.eqi ?_ ?_) <;> intro h <;> try (exfalso; omega)) | (simp (disch := (first | omega | (simp only [vlen]; first | done | omega))) only [vac, ↓vAq, vBq, ↓reduceIte, Nat.reduceBEq, Nat.reduceEqDiff, Nat.reduceLT, Nat.reduceLeDiff, Nat.reduceAdd, Nat.reduceMul, Nat.reduceSub, reduceCtorEq, Int.reduceToNat]) | (refine Br.mk ?_ ?_ <;> intro h) | (refine BrN.mk (fun h => ?_) ?_) | (refine AltVC.mk ?_ ?_)
          exact loopK.mk (i + 1) (by simp (disch := (first | omega | (simp only [vlen]; first | done | omega))) only [↓vAq, vBq, ↓reduceIte, Nat.reduceBEq, Nat.reduceEqDiff, Nat.reduceLT, Nat.reduceLeDiff, Nat.reduceAdd, Nat.reduceMul, Nat.reduceSub, reduceCtorEq, Int.reduceToNat]) ⟨by omega, fun a ha b hb => by
            rcases Nat.lt_or_ge a i with q | q
            · exact h2 a q b hb
            · have : a = i := by omega
              subst this
              exact k2 b (by omega)⟩ (by omega) (by (simp (disch := (first | omega | (simp only [vlen]; first | done | omega))) only [Fits_u, Fits_m, Fits_nil, List.length_append, vac, ↓vAq, vBq, ↓reduceIte, Nat.reduceBEq, Nat.reduceEqDiff, Nat.reduceLT, Nat.reduceLeDiff, Nat.reduceAdd, Nat.reduceMul, Nat.reduceSub, reduceCtorEq, Int.reduceToNat] <;> (repeat' first | rfl | apply And.intro)))
    · have he : i = g.rules.length := by omega
      subst he
      repeat' first | ((first | refine Br.dec ?_ ?_ | refine Br.eqi ?_ ?_) <;> intro h <;> try (exfalso; omega)) | (simp (disch := (first | omega | (simp only [vlen]; first | done | omega))) only [vac, ↓vAq, vBq, ↓reduceIte, Nat.reduceBEq, Nat.reduceEqDiff, Nat.reduceLT, Nat.reduceLeDiff, Nat.reduceAdd, Nat.reduceMul, Nat.reduceSub, reduceCtorEq, Int.reduceToNat]) | (refine Br.mk ?_ ?_ <;> intro h) | (refine BrN.mk (fun h => ?_) ?_) | (refine AltVC.mk ?_ ?_)
      exact fin_mk ⟨true, rfl, by simp [h2]⟩
set_option maxRecDepth 10000 in
set_option maxHeartbeats 4000000 in
theorem clear_spec (g : Grammar) (hv : Valid g) (N : Nat) (hN : N < 2 ^ g.n.toNat) : Dm.Spec Try.prog 43 [.ip (setsD g (fstL g N) (folL g N) N) 0] (fun d => ∃ b, d = .v (.bool b) ∧ (b = true ↔ Clr g N g.rules.length)) := by
  refine spec_of_vc mixed Try.func43 c43 (by rw [show Try.f43.ntmps = _ from Try.ntmps43]; simp) ?_
  unfold m43 r43
  have hn := hv.n
  have hlen := hv.len
  have hlook := fun (i : Nat) (hi : i < g.rules.length) => look_spec g hv N hN (g.rules.getD i default) (getD_mem' hi)
  unfold setsD at hlook ⊢
  repeat' first | ((first | refine Br.dec ?_ ?_ | refine Br.eqi ?_ ?_) <;> intro h <;> try (exfalso; omega)) | (simp (disch := (first | omega | (simp only [vlen]; first | done | omega))) only [vac, wD_rep, ↓vAq, vBq, ↓reduceIte, Nat.reduceBEq, Nat.reduceEqDiff, Nat.reduceLT, Nat.reduceLeDiff, Nat.reduceAdd, Nat.reduceMul, Nat.reduceSub, reduceCtorEq, Int.reduceToNat]) | (refine Br.mk ?_ ?_ <;> intro h) | (refine BrN.mk (fun h => ?_) ?_) | (refine AltVC.mk ?_ ?_)
  refine LoopVC.mk (X := List Nat × Nat) (fun x => [(3, .ref 0 1 0 x.1.length), (19, iv .i64 x.2)]) (fun x => [(0, ⟨1, tbl wD x.1, true, false, .arr⟩)]) (fun x => g.rules.length - x.2) (fun x => x.2 ≤ g.rules.length ∧ x.1.length = g.n.toNat ∧ Sm 4 x.1 ∧ Clr g N x.2 ∧ ∀ n x', (x.1.getD n default).testBit x' = true ↔ ∃ j, j < x.2 ∧ (g.rules.getD j default).left.toNat = n ∧ (lk g N (g.rules.getD j default)).testBit x' = true) (List.replicate g.n.toNat 0, 0) ⟨by simp, by simp, sm_rep, fun a ha => by simp at ha, fun n x => by rw [rep_getD]; simp⟩ ?_ ?_
  · (simp (disch := (first | omega | (simp only [vlen]; first | done | omega))) only [Fits_u, Fits_m, Fits_nil, List.length_append, vac, wD_rep, List.length_replicate, ↓vAq, vBq, ↓reduceIte, Nat.reduceBEq, Nat.reduceEqDiff, Nat.reduceLT, Nat.reduceLeDiff, Nat.reduceAdd, Nat.reduceMul, Nat.reduceSub, reduceCtorEq, Int.reduceToNat] <;> (repeat' first | rfl | apply And.intro))
  · rintro ⟨Sn, i⟩ ⟨h1, h2, h3, h4, h5⟩
    simp only at h1 h2 h3 h4 h5
    by_cases hi : i < g.rules.length
    · have hm : g.rules.getD i default ∈ g.rules := getD_mem' hi
      have hl := hv.left _ hm
      have hlk := hlook i hi
      have b1 := p16 (lk_lt (g := g) (N := N) (r := g.rules.getD i default)) (by omega)
      have b2 := p16 (h3.get (g.rules.getD i default).left.toNat) (by omega)
      have hand := andN (S := Sn.getD (g.rules.getD i default).left.toNat default) (T := lk g N (g.rules.getD i default)) (by omega) (by omega)
      have hor := orN (S := Sn.getD (g.rules.getD i default).left.toNat default) (T := lk g N (g.rules.getD i default)) (by omega) (by omega)
      repeat' first | ((first | refine Br.dec ?_ ?_ | refine Br.eqi ?_ ?_) <;> intro h <;> try (exfalso; omega)) | (simp (disch := (first | omega | (simp only [vlen]; first | done | omega))) only [vac, ↓vAq, vBq, ↓reduceIte, Nat.reduceBEq, Nat.reduceEqDiff, Nat.reduceLT, Nat.reduceLeDiff, Nat.reduceAdd, Nat.reduceMul, Nat.reduceSub, reduceCtorEq, Int.reduceToNat]) | (refine Br.mk ?_ ?_ <;> intro h) | (refine BrN.mk (fun h => ?_) ?_) | (refine AltVC.mk ?_ ?_)
      refine CallVC.eq hlk ?_
      repeat' first | ((first | refine Br.dec ?_ ?_ | refine Br.eqi ?_ ?_) <;> intro h <;> try (exfalso; omega)) | (simp (disch := (first | omega | (simp only [vlen]; first | done | omega))) only [vac, hand, hor, ↓vAq, vBq, ↓reduceIte, Nat.reduceBEq, Nat.reduceEqDiff, Nat.reduceLT, Nat.reduceLeDiff, Nat.reduceAdd, Nat.reduceMul, Nat.reduceSub, reduceCtorEq, Int.reduceToNat]) | (refine Br.mk ?_ ?_ <;> intro h) | (refine BrN.mk (fun h => ?_) ?_) | (refine AltVC.mk ?_ ?_)
      · have hz : Sn.getD (g.rules.getD i default).left.toNat default &&& lk g N (g.rules.getD i default) = 0 := by omega
        refine loopK.mk (Sn.set (g.rules.getD i default).left.toNat (Sn.getD (g.rules.getD i default).left.toNat default ||| lk g N (g.rules.getD i default)), i + 1) (by simp (disch := (first | omega | (simp only [vlen]; first | done | omega))) only [↓vAq, vBq, ↓reduceIte, Nat.reduceBEq, Nat.reduceEqDiff, Nat.reduceLT, Nat.reduceLeDiff, Nat.reduceAdd, Nat.reduceMul, Nat.reduceSub, reduceCtorEq, Int.reduceToNat]) ⟨by simp only; omega, by simp only [List.length_set]; exact h2, h3.set (Nat.or_lt_two_pow (h3.get _) lk_lt), fun a ha b hb => ?_, fun n x => ?_⟩ (by simp only; omega) (by (simp (disch := (first | omega | (simp only [vlen]; first | done | omega))) only [Fits_u, Fits_m, Fits_nil, List.length_append, vac, List.length_set, ↓vAq, vBq, ↓reduceIte, Nat.reduceBEq, Nat.reduceEqDiff, Nat.reduceLT, Nat.reduceLeDiff, Nat.reduceAdd, Nat.reduceMul, Nat.reduceSub, reduceCtorEq, Int.reduceToNat] <;> (repeat' first | rfl | apply And.intro)))
        · rcases Nat.lt_or_ge a i with q | q
          · exact h4 a q b hb
          · have : a = i := by simp only at ha; omega
            subst this
            intro e
            refine and_zero fun x e1 e2 => ?_
            refine and_bit hz ?_ e1
            rw [e]
            exact (h5 _ x).2 ⟨b, hb, rfl, e2⟩
        · simp only
          rw [getD_set']
          split
          · next e =>
            rw [Nat.testBit_or, Bool.or_eq_true, h5]
            constructor
            · rintro (⟨j, hj, e1, e2⟩ | h)
              · exact ⟨j, by omega, e1.trans e.1.symm, e2⟩
              · exact ⟨i, by omega, e.1.symm, h⟩
            · rintro ⟨j, hj, e1, e2⟩
              rcases Nat.lt_or_ge j i with q | q
              · exact .inl ⟨j, q, e1.trans e.1, e2⟩
              · have : j = i := by omega
                subst this; exact .inr e2
          · next e =>
            rw [h5]
            constructor
            · rintro ⟨j, hj, e1, e2⟩; exact ⟨j, by omega, e1, e2⟩
            · rintro ⟨j, hj, e1, e2⟩
              rcases Nat.lt_or_ge j i with q | q
              · exact ⟨j, q, e1, e2⟩
              · have : j = i := by omega
                subst this
                exact absurd ⟨e1.symm, by omega⟩ e
      · refine fin_mk ⟨false, rfl, ⟨fun h => (by cases h), fun hcl => ?_⟩⟩
        exfalso
        have hne : Sn.getD (g.rules.getD i default).left.toNat default &&& lk g N (g.rules.getD i default) ≠ 0 := by omega
        refine hne (and_zero fun x e1 e2 => ?_)
        obtain ⟨j, hj, e3, e4⟩ := (h5 _ x).1 e1
        have hl2 := hv.left _ (getD_mem' (l := g.rules) (i := j) (by omega))
        have := hcl i hi j hj (by omega)
        exact and_bit this e2 e4
    · have he : i = g.rules.length := by omega
      subst he
      repeat' first | ((first | refine Br.dec ?_ ?_ | refine Br.eqi ?_ ?_) <;> intro h <;> try (exfalso; omega)) | (simp (disch := (first | omega | (simp only [vlen]; first | done | omega))) only [vac, ↓vAq, vBq, ↓reduceIte, Nat.reduceBEq, Nat.reduceEqDiff, Nat.reduceLT, Nat.reduceLeDiff, Nat.reduceAdd, Nat.reduceMul, Nat.reduceSub, reduceCtorEq, Int.reduceToNat]) | (refine Br.mk ?_ ?_ <;> intro h) | (refine BrN.mk (fun h => ?_) ?_) | (refine AltVC.mk ?_ ?_)
      exact fin_mk ⟨true, rfl, by simp [h4]⟩
end Go.Proofs.Ytplkkacfjepgpaa
