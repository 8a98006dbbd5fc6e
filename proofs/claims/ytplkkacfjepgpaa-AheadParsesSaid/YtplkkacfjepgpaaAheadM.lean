/-
  ahead.make1.
-/
import Derived.Test.YtplkkacfjepgpaaAheadL
set_option linter.unusedVariables false
set_option linter.unusedSimpArgs false
set_option linter.unnecessarySimpa false
namespace Go.Proofs.Ytplkkacfjepgpaa
open Go.Dm
set_option linter.defProp false
def finX (R : D → Prop) (d : D) (s : S) : Prop := FinC R s d
theorem finX_eq {R : D → Prop} {d : D} {s : S} : finX R d s = FinV R s d (s.view d) := finC_eq
theorem fin_flt (τ : Nat) {s : S} {d v : D} {R : D → Prop} (h : kFlt τ (finX R d) s) : FinV R s d v := fun _ => by
  unfold kFlt kM at h
  split at h
  · next ob hM =>
    obtain ⟨⟨h1, h2⟩, s', g, hg, hR⟩ := h
    exact ⟨s', _, .step _ _ _ _ _ (.flt s τ ob h1 hM h2) hg, hR⟩
  · exact h.elim
theorem kBldS_g {cells : List D} {off z : Nat} {q q' q'' : IntKind} {a b c : Int} {es : List (List D)} {go : List D → Prop} : kBldS off 4 cells go [.v (.int q a), .v (.int q' b), .v (.int q'' c), .sl z es] = ChkD (off + 4 ≤ cells.length) (splice cells off [.v (.int q a), .v (.int q' b), .v (.int q'' c), .sl z es]) go := by
  rw [kBldS_n]; unfold ChkD; simp [D.one, Value.one]
def vam := And.intro vah @kBldS_g
theorem sm_rep {m n : Nat} : Sm m (List.replicate n 0) := fun x hx => by rw [List.eq_of_mem_replicate hx]; exact Nat.pow_pos (by omega)
theorem rep_getD {n i : Nat} : (List.replicate n 0).getD i default = 0 := by
  by_cases h : i < n
  · simp [List.getD, h]
  · simp [List.getD, h]
open Classical in
theorem come_bit {g : Grammar} (hv : Valid g) {i : Nat} : (comeSet g).testBit i = true ↔ Rch g i := by
  unfold comeSet
  rw [setOf_bit, Bool.and_eq_true]
  exact ⟨fun h => of_decide_eq_true h.2, fun h => ⟨decide_eq_true (rch_lt hv h), decide_eq_true h⟩⟩
theorem pas_mono {g : Grammar} {F W : List Nat} {N A0 n x : Nat} {l : List Int} (h : (W.getD n default).testBit x = true) : ∀ {k : Nat}, ((pasW g F N A0 W l k).getD n default).testBit x = true
  | 0 => h
  | k + 1 => by
    have ih := pas_mono h (g := g) (F := F) (N := N) (A0 := A0) (l := l) (k := k)
    unfold pasW
    split
    · exact ih
    · rw [getD_set']
      split
      · next e => rw [Nat.testBit_or, ← e.1, ih, Bool.true_or]
      · exact ih
theorem fst_is {g : Grammar} {N : Nat} {F : List Nat} (hl : F.length = g.n.toNat) (hm : Sm 3 F) (h1 : SndF g N F) (h2 : ∀ r, r ∈ g.rules → ClsF g N F r) : F = fstL g N := by
  classical
  unfold fstL
  refine (list_is (p := Fst g N) hl hm h1 fun i x h => fst_all h2 h).trans ?_
  congr
theorem fol_is {g : Grammar} {N : Nat} {F W : List Nat} (hl : W.length = g.n.toNat) (hm : Sm 4 W) (h1 : SndW g N W) (hf : ∀ r, r ∈ g.rules → ClsF g N F r) (hs : (W.getD g.start.toNat default).testBit g.k.toNat = true) (h : ∀ r, r ∈ g.rules → Rch g r.left.toNat → ClsW g F N W r) : W = folL g N := by
  classical
  unfold folL
  refine (list_is (p := Fol g N) hl hm h1 fun i x h3 => fol_all hf hs h h3).trans ?_
  congr
abbrev maO (g : Grammar) (F W : List Nat) (N : Nat) : List (Nat × Ob) := [(0, gOb g), (1, ⟨1, tbl wD F, true, false, .arr⟩), (2, ⟨1, tbl wD W, true, false, .arr⟩), (3, ⟨7, [setsR g 1 2 F.length W.length N], false, false, .fix⟩)]
set_option maxRecDepth 10000 in
set_option maxHeartbeats 4000000 in
theorem make1_spec (g : Grammar) (hv : Valid g) : Dm.Spec Try.prog 38 [.ag (graD g)] (· = .ip (setsD g (fstL g (nameSet g true)) (folL g (nameSet g true)) (nameSet g true)) 0) := by
  refine spec_of_vc mixed Try.func38 c38 (by rw [show Try.f38.ntmps = _ from Try.ntmps38]; simp) ?_
  unfold m38 r38
  have hk := hv.k
  have hn := hv.n
  have hst := hv.start
  have hlen := hv.len
  have hp : 2 ^ g.n.toNat ≤ 32 := Nat.le_trans (Nat.pow_le_pow_right (show 0 < 2 by omega) (show g.n.toNat ≤ 5 by omega)) (by decide)
  have hN : nameSet g true < 2 ^ g.n.toNat := setOf_lt
  have hnull := nullable_spec g hv
  generalize hNe : nameSet g true = N at hN hnull ⊢
  have hk8 : 2 ^ g.k.toNat ≤ 2 ^ 3 := Nat.pow_le_pow_right (by omega) (by omega)
  repeat' first | ((first | refine Br.dec ?_ ?_ | refine Br.eqi ?_ ?_) <;> intro h <;> try (exfalso; omega)) | (simp (disch := (first | omega | (simp only [vlen]; first | done | omega))) only [vam, ↓vAq, vBq, ↓reduceIte, Nat.reduceBEq, Nat.reduceEqDiff, Nat.reduceLT, Nat.reduceLeDiff, Nat.reduceAdd, Nat.reduceMul, Nat.reduceSub, reduceCtorEq, Int.reduceToNat]) | (refine Br.mk ?_ ?_ <;> intro h) | (refine BrN.mk (fun h => ?_) ?_) | (refine AltVC.mk ?_ ?_)
  refine DrawVC.cu (X := Unit) (fun _ => [(3, .ptr 3 7 0 0)]) (fun _ => maO g (List.replicate g.n.toNat 0) (List.replicate g.n.toNat 0) N) (fun _ => True) 4 (by simp (disch := (first | omega | (simp only [vlen]; first | done | omega))) only [↓vAq, vBq, ↓reduceIte, Nat.reduceBEq, Nat.reduceEqDiff, Nat.reduceLT, Nat.reduceLeDiff, Nat.reduceAdd, Nat.reduceMul, Nat.reduceSub, reduceCtorEq, Int.reduceToNat]) ?_ ?_
  · repeat' first | ((first | refine Br.dec ?_ ?_ | refine Br.eqi ?_ ?_) <;> intro h <;> try (exfalso; omega)) | (simp (disch := (first | omega | (simp only [vlen]; first | done | omega))) only [vam, ↓vAq, vBq, ↓reduceIte, Nat.reduceBEq, Nat.reduceEqDiff, Nat.reduceLT, Nat.reduceLeDiff, Nat.reduceAdd, Nat.reduceMul, Nat.reduceSub, reduceCtorEq, Int.reduceToNat]) | (refine Br.mk ?_ ?_ <;> intro h) | (refine BrN.mk (fun h => ?_) ?_) | (refine AltVC.mk ?_ ?_)
    all_goals
      refine CallP.eq hnull (fun h => by cases h) ?_
      repeat' first | ((first | refine Br.dec ?_ ?_ | refine Br.eqi ?_ ?_) <;> intro h <;> try (exfalso; omega)) | (simp (disch := (first | omega | (simp only [vlen]; first | done | omega))) only [vam, ↓vAq, vBq, ↓reduceIte, Nat.reduceBEq, Nat.reduceEqDiff, Nat.reduceLT, Nat.reduceLeDiff, Nat.reduceAdd, Nat.reduceMul, Nat.reduceSub, reduceCtorEq, Int.reduceToNat]) | (refine Br.mk ?_ ?_ <;> intro h) | (refine BrN.mk (fun h => ?_) ?_) | (refine AltVC.mk ?_ ?_)
    all_goals
      first
        | (refine cutK.mk () (by simp (disch := (first | omega | (simp only [vlen]; first | done | omega))) only [↓vAq, vBq, ↓reduceIte, Nat.reduceBEq, Nat.reduceEqDiff, Nat.reduceLT, Nat.reduceLeDiff, Nat.reduceAdd, Nat.reduceMul, Nat.reduceSub, reduceCtorEq, Int.reduceToNat]) trivial ?_
           (simp (disch := (first | omega | (simp only [vlen]; first | done | omega))) only [Fits_u, Fits_m, Fits_nil, List.length_append, vam, wD_rep, List.length_replicate, ↓vAq, vBq, ↓reduceIte, Nat.reduceBEq, Nat.reduceEqDiff, Nat.reduceLT, Nat.reduceLeDiff, Nat.reduceAdd, Nat.reduceMul, Nat.reduceSub, reduceCtorEq, Int.reduceToNat] <;> (repeat' first | rfl | apply And.intro))
           done)
        | (refine cutK.swap 1 2 ?_
           repeat' first | ((first | refine Br.dec ?_ ?_ | refine Br.eqi ?_ ?_) <;> intro h <;> try (exfalso; omega)) | (simp (disch := (first | omega | (simp only [vlen]; first | done | omega))) only [vam, ↓vAq, vBq, ↓reduceIte, Nat.reduceBEq, Nat.reduceEqDiff, Nat.reduceLT, Nat.reduceLeDiff, Nat.reduceAdd, Nat.reduceMul, Nat.reduceSub, reduceCtorEq, Int.reduceToNat]) | (refine Br.mk ?_ ?_ <;> intro h) | (refine BrN.mk (fun h => ?_) ?_) | (refine AltVC.mk ?_ ?_)
           refine cutK.mk () (by simp (disch := (first | omega | (simp only [vlen]; first | done | omega))) only [↓vAq, vBq, ↓reduceIte, Nat.reduceBEq, Nat.reduceEqDiff, Nat.reduceLT, Nat.reduceLeDiff, Nat.reduceAdd, Nat.reduceMul, Nat.reduceSub, reduceCtorEq, Int.reduceToNat]) trivial ?_
           (simp (disch := (first | omega | (simp only [vlen]; first | done | omega))) only [Fits_u, Fits_m, Fits_nil, List.length_append, vam, wD_rep, List.length_replicate, ↓vAq, vBq, ↓reduceIte, Nat.reduceBEq, Nat.reduceEqDiff, Nat.reduceLT, Nat.reduceLeDiff, Nat.reduceAdd, Nat.reduceMul, Nat.reduceSub, reduceCtorEq, Int.reduceToNat] <;> (repeat' first | rfl | apply And.intro))
           done)
  · intro _ _
    repeat' first | ((first | refine Br.dec ?_ ?_ | refine Br.eqi ?_ ?_) <;> intro h <;> try (exfalso; omega)) | (simp (disch := (first | omega | (simp only [vlen]; first | done | omega))) only [vam, ↓vAq, vBq, ↓reduceIte, Nat.reduceBEq, Nat.reduceEqDiff, Nat.reduceLT, Nat.reduceLeDiff, Nat.reduceAdd, Nat.reduceMul, Nat.reduceSub, reduceCtorEq, Int.reduceToNat]) | (refine Br.mk ?_ ?_ <;> intro h) | (refine BrN.mk (fun h => ?_) ?_) | (refine AltVC.mk ?_ ?_)
    refine LoopVC.mk (X := List Nat × Bool) (fun x => [(4, .v (.bool x.2))]) (fun x => maO g x.1 (List.replicate g.n.toNat 0) N) (fun x => 2 * (40 - x.1.sum) + (if x.2 then 1 else 0))
      (fun x => x.1.length = g.n.toNat ∧ Sm 3 x.1 ∧ SndF g N x.1 ∧ (x.2 = false → ∀ r, r ∈ g.rules → ClsF g N x.1 r)) (List.replicate g.n.toNat 0, true) ⟨by simp, sm_rep, fun n x h => (by rw [rep_getD] at h; simp at h), fun h => (by cases h)⟩ ?_ ?_
    · (simp (disch := (first | omega | (simp only [vlen]; first | done | omega))) only [Fits_u, Fits_m, Fits_nil, List.length_append, vam, List.length_replicate, ↓vAq, vBq, ↓reduceIte, Nat.reduceBEq, Nat.reduceEqDiff, Nat.reduceLT, Nat.reduceLeDiff, Nat.reduceAdd, Nat.reduceMul, Nat.reduceSub, reduceCtorEq, Int.reduceToNat] <;> (repeat' first | rfl | apply And.intro))
    · rintro ⟨F, b⟩ ⟨h1, h2, h3, h4⟩
      simp only at h1 h2 h3 h4
      have hS := sum_le h2
      have hS2 : F.sum ≤ 40 := by have : F.length * 2 ^ 3 ≤ 5 * 2 ^ 3 := Nat.mul_le_mul_right _ (by omega); omega
      cases b with
      | true =>
        repeat' first | ((first | refine Br.dec ?_ ?_ | refine Br.eqi ?_ ?_) <;> intro h <;> try (exfalso; omega)) | (simp (disch := (first | omega | (simp only [vlen]; first | done | omega))) only [vam, ↓vAq, vBq, ↓reduceIte, Nat.reduceBEq, Nat.reduceEqDiff, Nat.reduceLT, Nat.reduceLeDiff, Nat.reduceAdd, Nat.reduceMul, Nat.reduceSub, reduceCtorEq, Int.reduceToNat]) | (refine Br.mk ?_ ?_ <;> intro h) | (refine BrN.mk (fun h => ?_) ?_) | (refine AltVC.mk ?_ ?_)
        refine LoopVC.mk (X := List Nat × Bool × Nat) (fun x => [(4, .v (.bool x.2.1)), (28, iv .i64 x.2.2)]) (fun x => maO g x.1 (List.replicate g.n.toNat 0) N) (fun x => g.rules.length - x.2.2)
          (fun x => x.1.length = g.n.toNat ∧ Sm 3 x.1 ∧ SndF g N x.1 ∧ x.2.2 ≤ g.rules.length ∧ F.sum ≤ x.1.sum ∧ (x.2.1 = true → F.sum < x.1.sum) ∧ (x.2.1 = false → x.1 = F ∧ ∀ j, j < x.2.2 → ClsF g N F (g.rules.getD j default))) (F, false, 0) ⟨h1, h2, h3, by simp, by simp, fun h => (by cases h), fun _ => ⟨rfl, fun j hj => (by simp at hj)⟩⟩ ?_ ?_
        · (simp (disch := (first | omega | (simp only [vlen]; first | done | omega))) only [Fits_u, Fits_m, Fits_nil, List.length_append, vam, ↓vAq, vBq, ↓reduceIte, Nat.reduceBEq, Nat.reduceEqDiff, Nat.reduceLT, Nat.reduceLeDiff, Nat.reduceAdd, Nat.reduceMul, Nat.reduceSub, reduceCtorEq, Int.reduceToNat] <;> (repeat' first | rfl | apply And.intro))
        · rintro ⟨F1, b1, i⟩ ⟨k1, k2, k3, k4, k5, k6, k7⟩
          simp only at k1 k2 k3 k4 k5 k6 k7
          have hT := sum_le k2
          have hT2 : F1.sum ≤ 40 := by have : F1.length * 2 ^ 3 ≤ 5 * 2 ^ 3 := Nat.mul_le_mul_right _ (by omega); omega
          by_cases hi : i < g.rules.length
          · have hm : g.rules.getD i default ∈ g.rules := getD_mem' hi
            generalize hre : g.rules.getD i default = r at hm
            have hl := hv.left r hm
            have hlong := hv.long r hm
            have hs := hv.right r hm
            have hbl := beg_lt (g := g) (N := N) k2 (by omega) (l := r.right) fun y hy => (hs y hy).1
            have c1 := p16 hbl (by omega)
            have c2 := p16 (k2.get r.left.toNat) (by omega)
            repeat' first | ((first | refine Br.dec ?_ ?_ | refine Br.eqi ?_ ?_) <;> intro h <;> try (exfalso; omega)) | (simp (disch := (first | omega | (simp only [vlen]; first | done | omega))) only [vam, hre, ↓vAq, vBq, ↓reduceIte, Nat.reduceBEq, Nat.reduceEqDiff, Nat.reduceLT, Nat.reduceLeDiff, Nat.reduceAdd, Nat.reduceMul, Nat.reduceSub, reduceCtorEq, Int.reduceToNat]) | (refine Br.mk ?_ ?_ <;> intro h) | (refine BrN.mk (fun h => ?_) ?_) | (refine AltVC.mk ?_ ?_)
            · refine CallVC.lendE [3, 1, 2] [.ptr 0 7 0 0, .sl 1 (i64s r.right)] (aObs g F1 (List.replicate g.n.toNat 0) N) (begH_spec g hv F1 (List.replicate g.n.toNat 0) N k2 k1 hN r.right (by omega) hs) (by simp) (by rfl) (by unfold aObs setsR; (simp (disch := (first | omega | (simp only [vlen]; first | done | omega))) only [vle0, ↓vAq, vBq, ↓reduceIte, Nat.reduceBEq, Nat.reduceEqDiff, Nat.reduceLT, Nat.reduceLeDiff, Nat.reduceAdd, Nat.reduceMul, Nat.reduceSub, reduceCtorEq, Int.reduceToNat] <;> (repeat' first | rfl | apply And.intro))) ?_
              rintro d o ⟨rfl, rfl⟩
              have hor := orN (S := F1.getD r.left.toNat default) (T := beg g F1 N r.right) (by omega) (by omega)
              repeat' first | ((first | refine Br.dec ?_ ?_ | refine Br.eqi ?_ ?_) <;> intro h <;> try (exfalso; omega)) | (simp (disch := (first | omega | (simp only [vlen]; first | done | omega))) only [vam, hre, ↓vAq, vBq, ↓reduceIte, Nat.reduceBEq, Nat.reduceEqDiff, Nat.reduceLT, Nat.reduceLeDiff, Nat.reduceAdd, Nat.reduceMul, Nat.reduceSub, reduceCtorEq, Int.reduceToNat]) | (refine Br.mk ?_ ?_ <;> intro h) | (refine BrN.mk (fun h => ?_) ?_) | (refine AltVC.mk ?_ ?_)
              · have he : F1.getD r.left.toNat default ||| beg g F1 N r.right = F1.getD r.left.toNat default := by have := hor.symm.trans (by assumption); omega
                refine loopK.mk (F1, b1, i + 1) (by simp (disch := (first | omega | (simp only [vlen]; first | done | omega))) only [↓vAq, vBq, ↓reduceIte, Nat.reduceBEq, Nat.reduceEqDiff, Nat.reduceLT, Nat.reduceLeDiff, Nat.reduceAdd, Nat.reduceMul, Nat.reduceSub, reduceCtorEq, Int.reduceToNat]) ⟨k1, k2, k3, by simp only; omega, k5, k6, fun hb => ?_⟩ (by simp only; omega) (by (simp (disch := (first | omega | (simp only [vlen]; first | done | omega))) only [Fits_u, Fits_m, Fits_nil, List.length_append, vam, ↓vAq, vBq, ↓reduceIte, Nat.reduceBEq, Nat.reduceEqDiff, Nat.reduceLT, Nat.reduceLeDiff, Nat.reduceAdd, Nat.reduceMul, Nat.reduceSub, reduceCtorEq, Int.reduceToNat] <;> (repeat' first | rfl | apply And.intro)))
                obtain ⟨e, h⟩ := k7 hb
                refine ⟨e, fun j hj => ?_⟩
                rcases Nat.lt_or_ge j i with h' | h'
                · exact h j h'
                · have : j = i := by simp only at hj; omega
                  subst this
                  rw [hre, ← e]; exact he
              · have he : F1.getD r.left.toNat default ||| beg g F1 N r.right ≠ F1.getD r.left.toNat default := fun he => by rw [he] at hor; contradiction
                rw [hor]
                have hsum := sum_or (b := beg g F1 N r.right) (show r.left.toNat < F1.length by omega) he
                refine loopK.mk (F1.set r.left.toNat (F1.getD r.left.toNat default ||| beg g F1 N r.right), true, i + 1) (by simp (disch := (first | omega | (simp only [vlen]; first | done | omega))) only [↓vAq, vBq, ↓reduceIte, Nat.reduceBEq, Nat.reduceEqDiff, Nat.reduceLT, Nat.reduceLeDiff, Nat.reduceAdd, Nat.reduceMul, Nat.reduceSub, reduceCtorEq, Int.reduceToNat]) ⟨by simp only [List.length_set]; exact k1, k2.set (Nat.or_lt_two_pow (k2.get _) hbl), k3.step hm, by simp only; omega, by simp only; omega, fun _ => by simp only; omega, fun h => (by cases h)⟩ (by simp only; omega) (by (simp (disch := (first | omega | (simp only [vlen]; first | done | omega))) only [Fits_u, Fits_m, Fits_nil, List.length_append, vam, List.length_set, ↓vAq, vBq, ↓reduceIte, Nat.reduceBEq, Nat.reduceEqDiff, Nat.reduceLT, Nat.reduceLeDiff, Nat.reduceAdd, Nat.reduceMul, Nat.reduceSub, reduceCtorEq, Int.reduceToNat] <;> (repeat' first | rfl | apply And.intro)))
          · have he : i = g.rules.length := by omega
            subst he
            repeat' first | ((first | refine Br.dec ?_ ?_ | refine Br.eqi ?_ ?_) <;> intro h <;> try (exfalso; omega)) | (simp (disch := (first | omega | (simp only [vlen]; first | done | omega))) only [vam, ↓vAq, vBq, ↓reduceIte, Nat.reduceBEq, Nat.reduceEqDiff, Nat.reduceLT, Nat.reduceLeDiff, Nat.reduceAdd, Nat.reduceMul, Nat.reduceSub, reduceCtorEq, Int.reduceToNat]) | (refine Br.mk ?_ ?_ <;> intro h) | (refine BrN.mk (fun h => ?_) ?_) | (refine AltVC.mk ?_ ?_)
            refine loopK.mk (F1, b1) (by simp (disch := (first | omega | (simp only [vlen]; first | done | omega))) only [↓vAq, vBq, ↓reduceIte, Nat.reduceBEq, Nat.reduceEqDiff, Nat.reduceLT, Nat.reduceLeDiff, Nat.reduceAdd, Nat.reduceMul, Nat.reduceSub, reduceCtorEq, Int.reduceToNat]) ⟨k1, k2, k3, fun hb r hr => ?_⟩ ?_ (by (simp (disch := (first | omega | (simp only [vlen]; first | done | omega))) only [Fits_u, Fits_m, Fits_nil, List.length_append, vam, ↓vAq, vBq, ↓reduceIte, Nat.reduceBEq, Nat.reduceEqDiff, Nat.reduceLT, Nat.reduceLeDiff, Nat.reduceAdd, Nat.reduceMul, Nat.reduceSub, reduceCtorEq, Int.reduceToNat] <;> (repeat' first | rfl | apply And.intro)))
            · obtain ⟨e, h⟩ := k7 hb
              rw [e]
              obtain ⟨j, hj, rfl⟩ := List.getElem_of_mem hr
              have := h j hj
              rw [show g.rules.getD j default = g.rules[j] by simp [List.getD, hj]] at this; exact this
            · cases b1 with
              | true => have := k6 rfl; simp only [if_true]; omega
              | false => obtain ⟨e, _⟩ := k7 rfl; simp only [e, if_true, Bool.false_eq_true, if_false]; omega
      | false =>
        have hcls := h4 rfl
        have hreach := reach_spec g hv
        have hC : comeSet g < 2 ^ g.n.toNat := setOf_lt
        have hCb : ∀ i, (comeSet g).testBit i = true ↔ Rch g i := fun i => come_bit hv
        generalize hCe : comeSet g = C at hreach hC hCb
        have hpk : 2 ^ g.k.toNat < 2 ^ 4 := Nat.pow_lt_pow_right (by omega) (by omega)
        have hpk15 := p16 hpk (by omega)
        repeat' first | ((first | refine Br.dec ?_ ?_ | refine Br.eqi ?_ ?_) <;> intro h <;> try (exfalso; omega)) | (simp (disch := (first | omega | (simp only [vlen]; first | done | omega))) only [vam, ↓vAq, vBq, ↓reduceIte, Nat.reduceBEq, Nat.reduceEqDiff, Nat.reduceLT, Nat.reduceLeDiff, Nat.reduceAdd, Nat.reduceMul, Nat.reduceSub, reduceCtorEq, Int.reduceToNat]) | (refine Br.mk ?_ ?_ <;> intro h) | (refine BrN.mk (fun h => ?_) ?_) | (refine AltVC.mk ?_ ?_)
        refine CallVC.eq hreach ?_
        repeat' first | ((first | refine Br.dec ?_ ?_ | refine Br.eqi ?_ ?_) <;> intro h <;> try (exfalso; omega)) | (simp (disch := (first | omega | (simp only [vlen]; first | done | omega))) only [vam, List.length_replicate, ↓vAq, vBq, ↓reduceIte, Nat.reduceBEq, Nat.reduceEqDiff, Nat.reduceLT, Nat.reduceLeDiff, Nat.reduceAdd, Nat.reduceMul, Nat.reduceSub, reduceCtorEq, Int.reduceToNat]) | (refine Br.mk ?_ ?_ <;> intro h) | (refine BrN.mk (fun h => ?_) ?_) | (refine AltVC.mk ?_ ?_)
        rw [shlN (by omega)]
        refine LoopVC.mk (X := List Nat × Bool) (fun x => [(10, .v (.bool x.2))]) (fun x => maO g F x.1 N) (fun x => 2 * (80 - x.1.sum) + (if x.2 then 1 else 0))
          (fun x => x.1.length = g.n.toNat ∧ Sm 4 x.1 ∧ SndW g N x.1 ∧ (x.1.getD g.start.toNat default).testBit g.k.toNat = true ∧ (x.2 = false → ∀ r, r ∈ g.rules → Rch g r.left.toNat → ClsW g F N x.1 r)) ((List.replicate g.n.toNat 0).set g.start.toNat (2 ^ g.k.toNat), true) ⟨by simp, sm_rep.set hpk, fun n x h => ?_, ?_, fun h => (by cases h)⟩ ?_ ?_
        · rw [getD_set'] at h
          split at h
          · next e =>
            rw [e.1]
            by_cases hx : g.k.toNat = x
            · rw [← hx]; exact .start
            · rw [Nat.testBit_two_pow_of_ne hx] at h; cases h
          · rw [rep_getD] at h; simp at h
        · rw [getD_set', if_pos ⟨rfl, by rw [List.length_replicate]; omega⟩]; exact Nat.testBit_two_pow_self
        · (simp (disch := (first | omega | (simp only [vlen]; first | done | omega))) only [Fits_u, Fits_m, Fits_nil, List.length_append, vam, List.length_replicate, List.length_set, ↓vAq, vBq, ↓reduceIte, Nat.reduceBEq, Nat.reduceEqDiff, Nat.reduceLT, Nat.reduceLeDiff, Nat.reduceAdd, Nat.reduceMul, Nat.reduceSub, reduceCtorEq, Int.reduceToNat] <;> (repeat' first | rfl | apply And.intro))
        · rintro ⟨W, b⟩ ⟨w1, w2, w3, w4, w5⟩
          simp only at w1 w2 w3 w4 w5
          have hS3 := sum_le w2
          have hS4 : W.sum ≤ 80 := by have : W.length * 2 ^ 4 ≤ 5 * 2 ^ 4 := Nat.mul_le_mul_right _ (by omega); omega
          have h24 : Sm 4 F := fun x hx => Nat.lt_of_lt_of_le (h2 x hx) (by decide)
          cases b with
          | true =>
            repeat' first | ((first | refine Br.dec ?_ ?_ | refine Br.eqi ?_ ?_) <;> intro h <;> try (exfalso; omega)) | (simp (disch := (first | omega | (simp only [vlen]; first | done | omega))) only [vam, ↓vAq, vBq, ↓reduceIte, Nat.reduceBEq, Nat.reduceEqDiff, Nat.reduceLT, Nat.reduceLeDiff, Nat.reduceAdd, Nat.reduceMul, Nat.reduceSub, reduceCtorEq, Int.reduceToNat]) | (refine Br.mk ?_ ?_ <;> intro h) | (refine BrN.mk (fun h => ?_) ?_) | (refine AltVC.mk ?_ ?_)
            refine LoopVC.mk (X := List Nat × Bool × Nat) (fun x => [(10, .v (.bool x.2.1)), (86, iv .i64 x.2.2)]) (fun x => maO g F x.1 N) (fun x => g.rules.length - x.2.2)
              (fun x => x.1.length = g.n.toNat ∧ Sm 4 x.1 ∧ SndW g N x.1 ∧ (x.1.getD g.start.toNat default).testBit g.k.toNat = true ∧ x.2.2 ≤ g.rules.length ∧ W.sum ≤ x.1.sum ∧ (x.2.1 = true → W.sum < x.1.sum) ∧ (x.2.1 = false → x.1 = W ∧ ∀ j, j < x.2.2 → Rch g (g.rules.getD j default).left.toNat → ClsW g F N W (g.rules.getD j default))) (W, false, 0) ⟨w1, w2, w3, w4, by simp, by simp, fun h => (by cases h), fun _ => ⟨rfl, fun j hj => (by simp at hj)⟩⟩ ?_ ?_
            · (simp (disch := (first | omega | (simp only [vlen]; first | done | omega))) only [Fits_u, Fits_m, Fits_nil, List.length_append, vam, ↓vAq, vBq, ↓reduceIte, Nat.reduceBEq, Nat.reduceEqDiff, Nat.reduceLT, Nat.reduceLeDiff, Nat.reduceAdd, Nat.reduceMul, Nat.reduceSub, reduceCtorEq, Int.reduceToNat] <;> (repeat' first | rfl | apply And.intro))
            · rintro ⟨W1, b1, i⟩ ⟨k1, k2, k3, k8, k4, k5, k6, k7⟩
              simp only at k1 k2 k3 k4 k5 k6 k7 k8
              have hT := sum_le k2
              have hT2 : W1.sum ≤ 80 := by have : W1.length * 2 ^ 4 ≤ 5 * 2 ^ 4 := Nat.mul_le_mul_right _ (by omega); omega
              by_cases hi : i < g.rules.length
              · have hm : g.rules.getD i default ∈ g.rules := getD_mem' hi
                generalize hre : g.rules.getD i default = r at hm
                have hl := hv.left r hm
                have hsp := has_spec C r.left.toNat (by omega) (by omega)
                rw [Int.toNat_of_nonneg (by omega)] at hsp
                have hA0 : W1.getD r.left.toNat default < 2 ^ 4 := k2.get _
                have hs := hv.right r hm
                have hs0 : ∀ y, y ∈ r.right → 0 ≤ y := fun y hy => (hs y hy).1
                repeat' first | ((first | refine Br.dec ?_ ?_ | refine Br.eqi ?_ ?_) <;> intro h <;> try (exfalso; omega)) | (simp (disch := (first | omega | (simp only [vlen]; first | done | omega))) only [vam, hre, ↓vAq, vBq, ↓reduceIte, Nat.reduceBEq, Nat.reduceEqDiff, Nat.reduceLT, Nat.reduceLeDiff, Nat.reduceAdd, Nat.reduceMul, Nat.reduceSub, reduceCtorEq, Int.reduceToNat]) | (refine Br.mk ?_ ?_ <;> intro h) | (refine BrN.mk (fun h => ?_) ?_) | (refine AltVC.mk ?_ ?_)
                refine CallVC.eq hsp ?_
                repeat' first | ((first | refine Br.dec ?_ ?_ | refine Br.eqi ?_ ?_) <;> intro h <;> try (exfalso; omega)) | (simp (disch := (first | omega | (simp only [vlen]; first | done | omega))) only [vam, hre, ↓vAq, vBq, ↓reduceIte, Nat.reduceBEq, Nat.reduceEqDiff, Nat.reduceLT, Nat.reduceLeDiff, Nat.reduceAdd, Nat.reduceMul, Nat.reduceSub, reduceCtorEq, Int.reduceToNat]) | (refine Br.mk ?_ ?_ <;> intro h) | (refine BrN.mk (fun h => ?_) ?_) | (refine AltVC.mk ?_ ?_)
                · have hc : Rch g r.left.toNat := (hCb _).1 (by assumption)
                  have q1 := pasW_len (g := g) (F := F) (N := N) (A0 := W1.getD r.left.toNat default) (k := r.right.length) (W := W1) (l := r.right)
                  have q2 := pasW_sm (g := g) (F := F) (N := N) (A0 := W1.getD r.left.toNat default) (m := 4) (k := r.right.length) (W := W1) (l := r.right) h24 k2 (by omega) hA0 hs0
                  have q3 := pas_snd h3 k3 hm hc (Nat.le_refl _)
                  have q4 := pas_mono k8 (g := g) (F := F) (N := N) (A0 := W1.getD r.left.toNat default) (l := r.right) (k := r.right.length)
                  have q5 := pas_sum (g := g) (F := F) (W := W1) (N := N) (A0 := W1.getD r.left.toNat default) (l := r.right) (fun y hy h => by have := hs y hy; omega) (Nat.le_refl _)
                  have q6 := pas_same (g := g) (F := F) (W := W1) (N := N) (A0 := W1.getD r.left.toNat default) (l := r.right) (k := r.right.length)
                  refine CallVC.lendE [3, 1, 2] [.ptr 0 7 0 0, .ag (rulD r)] (aObs g F W1 N) (pass_spec g hv F W1 N h24 k2 h1 k1 hN r hm) (by simp) (by rfl) (by unfold aObs setsR; (simp (disch := (first | omega | (simp only [vlen]; first | done | omega))) only [vle0, ↓vAq, vBq, ↓reduceIte, Nat.reduceBEq, Nat.reduceEqDiff, Nat.reduceLT, Nat.reduceLeDiff, Nat.reduceAdd, Nat.reduceMul, Nat.reduceSub, reduceCtorEq, Int.reduceToNat] <;> (repeat' first | rfl | apply And.intro))) ?_
                  rintro d o ⟨rfl, rfl⟩
                  generalize hWe : pasW g F N (W1.getD r.left.toNat default) W1 r.right r.right.length = W2 at q1 q2 q3 q4 q5 q6 ⊢
                  generalize hBe : pasB g F N (W1.getD r.left.toNat default) W1 r.right r.right.length = B2 at q5 q6 ⊢
                  repeat' first | ((first | refine Br.dec ?_ ?_ | refine Br.eqi ?_ ?_) <;> intro h <;> try (exfalso; omega)) | (simp (disch := (first | omega | (simp only [vlen]; first | done | omega))) only [vam, hre, ↓vAq, vBq, ↓reduceIte, Nat.reduceBEq, Nat.reduceEqDiff, Nat.reduceLT, Nat.reduceLeDiff, Nat.reduceAdd, Nat.reduceMul, Nat.reduceSub, reduceCtorEq, Int.reduceToNat]) | (refine Br.mk ?_ ?_ <;> intro h) | (refine BrN.mk (fun h => ?_) ?_) | (refine AltVC.mk ?_ ?_)
                  · have hB : B2 = true := by assumption
                    have := q5.2 hB
                    refine loopK.mk (W2, true, i + 1) (by simp (disch := (first | omega | (simp only [vlen]; first | done | omega))) only [↓vAq, vBq, ↓reduceIte, Nat.reduceBEq, Nat.reduceEqDiff, Nat.reduceLT, Nat.reduceLeDiff, Nat.reduceAdd, Nat.reduceMul, Nat.reduceSub, reduceCtorEq, Int.reduceToNat]) ⟨by simp only; omega, q2, q3, q4, by simp only; omega, by simp only; omega, fun _ => by simp only; omega, fun h => (by cases h)⟩ (by simp only; omega) (by (simp (disch := (first | omega | (simp only [vlen]; first | done | omega))) only [Fits_u, Fits_m, Fits_nil, List.length_append, vam, ↓vAq, vBq, ↓reduceIte, Nat.reduceBEq, Nat.reduceEqDiff, Nat.reduceLT, Nat.reduceLeDiff, Nat.reduceAdd, Nat.reduceMul, Nat.reduceSub, reduceCtorEq, Int.reduceToNat] <;> (repeat' first | rfl | apply And.intro)))
                  · have hB : B2 = false := by assumption
                    obtain ⟨r1, r2⟩ := q6 hB
                    subst r1
                    refine loopK.mk (W2, b1, i + 1) (by simp (disch := (first | omega | (simp only [vlen]; first | done | omega))) only [↓vAq, vBq, ↓reduceIte, Nat.reduceBEq, Nat.reduceEqDiff, Nat.reduceLT, Nat.reduceLeDiff, Nat.reduceAdd, Nat.reduceMul, Nat.reduceSub, reduceCtorEq, Int.reduceToNat]) ⟨k1, k2, k3, k8, by simp only; omega, k5, k6, fun hb => ?_⟩ (by simp only; omega) (by (simp (disch := (first | omega | (simp only [vlen]; first | done | omega))) only [Fits_u, Fits_m, Fits_nil, List.length_append, vam, ↓vAq, vBq, ↓reduceIte, Nat.reduceBEq, Nat.reduceEqDiff, Nat.reduceLT, Nat.reduceLeDiff, Nat.reduceAdd, Nat.reduceMul, Nat.reduceSub, reduceCtorEq, Int.reduceToNat] <;> (repeat' first | rfl | apply And.intro)))
                    obtain ⟨e, h⟩ := k7 hb
                    refine ⟨e, fun j hj hc2 => ?_⟩
                    rcases Nat.lt_or_ge j i with h' | h'
                    · exact h j h' hc2
                    · have : j = i := by simp only at hj; omega
                      subst this
                      rw [hre]
                      rw [← e]; exact r2
                · have hnc : ¬ Rch g r.left.toNat := fun h => by have := (hCb _).2 h; simp_all
                  refine loopK.mk (W1, b1, i + 1) (by simp (disch := (first | omega | (simp only [vlen]; first | done | omega))) only [↓vAq, vBq, ↓reduceIte, Nat.reduceBEq, Nat.reduceEqDiff, Nat.reduceLT, Nat.reduceLeDiff, Nat.reduceAdd, Nat.reduceMul, Nat.reduceSub, reduceCtorEq, Int.reduceToNat]) ⟨k1, k2, k3, k8, by simp only; omega, k5, k6, fun hb => ?_⟩ (by simp only; omega) (by (simp (disch := (first | omega | (simp only [vlen]; first | done | omega))) only [Fits_u, Fits_m, Fits_nil, List.length_append, vam, ↓vAq, vBq, ↓reduceIte, Nat.reduceBEq, Nat.reduceEqDiff, Nat.reduceLT, Nat.reduceLeDiff, Nat.reduceAdd, Nat.reduceMul, Nat.reduceSub, reduceCtorEq, Int.reduceToNat] <;> (repeat' first | rfl | apply And.intro)))
                  obtain ⟨e, h⟩ := k7 hb
                  refine ⟨e, fun j hj hc2 => ?_⟩
                  rcases Nat.lt_or_ge j i with h' | h'
                  · exact h j h' hc2
                  · have : j = i := by simp only at hj; omega
                    subst this
                    rw [hre] at hc2
                    exact absurd hc2 hnc
              · have he : i = g.rules.length := by omega
                subst he
                repeat' first | ((first | refine Br.dec ?_ ?_ | refine Br.eqi ?_ ?_) <;> intro h <;> try (exfalso; omega)) | (simp (disch := (first | omega | (simp only [vlen]; first | done | omega))) only [vam, ↓vAq, vBq, ↓reduceIte, Nat.reduceBEq, Nat.reduceEqDiff, Nat.reduceLT, Nat.reduceLeDiff, Nat.reduceAdd, Nat.reduceMul, Nat.reduceSub, reduceCtorEq, Int.reduceToNat]) | (refine Br.mk ?_ ?_ <;> intro h) | (refine BrN.mk (fun h => ?_) ?_) | (refine AltVC.mk ?_ ?_)
                refine loopK.mk (W1, b1) (by simp (disch := (first | omega | (simp only [vlen]; first | done | omega))) only [↓vAq, vBq, ↓reduceIte, Nat.reduceBEq, Nat.reduceEqDiff, Nat.reduceLT, Nat.reduceLeDiff, Nat.reduceAdd, Nat.reduceMul, Nat.reduceSub, reduceCtorEq, Int.reduceToNat]) ⟨k1, k2, k3, k8, fun hb r hr hc => ?_⟩ ?_ (by (simp (disch := (first | omega | (simp only [vlen]; first | done | omega))) only [Fits_u, Fits_m, Fits_nil, List.length_append, vam, ↓vAq, vBq, ↓reduceIte, Nat.reduceBEq, Nat.reduceEqDiff, Nat.reduceLT, Nat.reduceLeDiff, Nat.reduceAdd, Nat.reduceMul, Nat.reduceSub, reduceCtorEq, Int.reduceToNat] <;> (repeat' first | rfl | apply And.intro)))
                · obtain ⟨e, h⟩ := k7 hb
                  rw [e]
                  obtain ⟨j, hj, rfl⟩ := List.getElem_of_mem hr
                  have := h j hj
                  rw [show g.rules.getD j default = g.rules[j] by simp [List.getD, hj]] at this; exact this hc
                · cases b1 with
                  | true => have := k6 rfl; simp only [if_true]; omega
                  | false => obtain ⟨e, _⟩ := k7 rfl; simp only [e, if_true, Bool.false_eq_true, if_false]; omega
          | false =>
            have e1 := fst_is h1 h2 h3 hcls
            have e2 := fol_is w1 w2 w3 hcls w4 (w5 rfl)
            repeat' first | ((first | refine Br.dec ?_ ?_ | refine Br.eqi ?_ ?_) <;> intro h <;> try (exfalso; omega)) | (simp (disch := (first | omega | (simp only [vlen]; first | done | omega))) only [vam, ↓vAq, vBq, ↓reduceIte, Nat.reduceBEq, Nat.reduceEqDiff, Nat.reduceLT, Nat.reduceLeDiff, Nat.reduceAdd, Nat.reduceMul, Nat.reduceSub, reduceCtorEq, Int.reduceToNat]) | (refine Br.mk ?_ ?_ <;> intro h) | (refine BrN.mk (fun h => ?_) ?_) | (refine AltVC.mk ?_ ?_)
            refine fin_frz 1 ?_
            repeat' first | ((first | refine Br.dec ?_ ?_ | refine Br.eqi ?_ ?_) <;> intro h <;> try (exfalso; omega)) | (simp (disch := (first | omega | (simp only [vlen]; first | done | omega))) only [vam, ↓vAq, vBq, ↓reduceIte, Nat.reduceBEq, Nat.reduceEqDiff, Nat.reduceLT, Nat.reduceLeDiff, Nat.reduceAdd, Nat.reduceMul, Nat.reduceSub, reduceCtorEq, Int.reduceToNat]) | (refine Br.mk ?_ ?_ <;> intro h) | (refine BrN.mk (fun h => ?_) ?_) | (refine AltVC.mk ?_ ?_)
            refine fin_frz 2 ?_
            repeat' first | ((first | refine Br.dec ?_ ?_ | refine Br.eqi ?_ ?_) <;> intro h <;> try (exfalso; omega)) | (simp (disch := (first | omega | (simp only [vlen]; first | done | omega))) only [vam, ↓vAq, vBq, ↓reduceIte, Nat.reduceBEq, Nat.reduceEqDiff, Nat.reduceLT, Nat.reduceLeDiff, Nat.reduceAdd, Nat.reduceMul, Nat.reduceSub, reduceCtorEq, Int.reduceToNat]) | (refine Br.mk ?_ ?_ <;> intro h) | (refine BrN.mk (fun h => ?_) ?_) | (refine AltVC.mk ?_ ?_)
            refine fin_flt 3 ?_
            repeat' first | ((first | refine Br.dec ?_ ?_ | refine Br.eqi ?_ ?_) <;> intro h <;> try (exfalso; omega)) | (simp (disch := (first | omega | (simp only [vlen]; first | done | omega))) only [vam, finX_eq, ↓vAq, vBq, ↓reduceIte, Nat.reduceBEq, Nat.reduceEqDiff, Nat.reduceLT, Nat.reduceLeDiff, Nat.reduceAdd, Nat.reduceMul, Nat.reduceSub, reduceCtorEq, Int.reduceToNat]) | (refine Br.mk ?_ ?_ <;> intro h) | (refine BrN.mk (fun h => ?_) ?_) | (refine AltVC.mk ?_ ?_)
            refine fin_frz 3 ?_
            repeat' first | ((first | refine Br.dec ?_ ?_ | refine Br.eqi ?_ ?_) <;> intro h <;> try (exfalso; omega)) | (simp (disch := (first | omega | (simp only [vlen]; first | done | omega))) only [vam, ↓vAq, vBq, ↓reduceIte, Nat.reduceBEq, Nat.reduceEqDiff, Nat.reduceLT, Nat.reduceLeDiff, Nat.reduceAdd, Nat.reduceMul, Nat.reduceSub, reduceCtorEq, Int.reduceToNat]) | (refine Br.mk ?_ ?_ <;> intro h) | (refine BrN.mk (fun h => ?_) ?_) | (refine AltVC.mk ?_ ?_)
            exact fin_mk (by rw [← e1, ← e2]; rfl)
end Go.Proofs.Ytplkkacfjepgpaa
