/-
 Texts of this claim, one behind another.
-/
import Derived.Test.YtplkkacfjepgpaaMg16
import Derived.Test.YtplkkacfjepgpaaMg13
namespace Go.Proofs.Ytplkkacfjepgpaa
open Go.Dm
set_option linter.unusedSimpArgs false
set_option linter.unnecessarySimpa false
set_option linter.unusedVariables false
set_option linter.defProp false
theorem Valid.pg {g : Grammar} (h : Valid g) : PG g := ⟨h.k.1, h.n.1, h.start, h.left, h.right⟩
theorem letS_len {g : Grammar} : (letS g).length = g.k.toNat := by simp [letS]
theorem shG_len {g : Grammar} (h : Valid g) : (shG g).rules.length ≤ 54 := by
  have h1 := @shR_len g g.rules (n0S g) h.long
  have h2 := h.len
  have h3 := h.k
  have e : (shG g).rules = ⟨0, [g.k + g.start + 1]⟩ :: (letS g ++ shR g g.rules (n0S g)) := rfl
  rw [e, List.length_cons, List.length_append, letS_len]; omega
theorem shG_n {g : Grammar} (h : Valid g) : 1 ≤ (shG g).n ∧ (shG g).n ≤ 29 := by
  have h1 := @shN_top g.rules (n0S g) h.long
  have h0 := @shN_le g.rules (n0S g)
  have h2 := h.len
  have h3 := h.k
  have h4 := h.n
  have e : (shG g).n = shN g.rules (n0S g) := rfl
  have e2 : n0S g = g.n + 1 + g.k := rfl
  rw [e]; omega
theorem shG_va {g : Grammar} (h : Valid g) : VaG (shG g) := by
  have ho := sh_ok h.pg
  have h1 := shG_len h
  have h2 := shG_n h
  refine ⟨h.k, ⟨h2.1, by omega⟩, by omega, fun r hr => (ho r hr).1, fun r hr => by have := (ho r hr).2.1; omega, fun r hr => (ho r hr).2.2.1⟩
theorem ful_ok {nul : Int → Bool} {k N : Int} {r ρ : Rule} (h : ShOk k N r) (hρ : ρ ∈ fulS nul k r) : ShOk k N ρ := by
  obtain ⟨L, R⟩ := r
  obtain ⟨h1, h2, h3, h4⟩ := h
  unfold fulS at hρ
  match R, h2, h3, h4, hρ with
  | [], _, _, _, hρ => cases hρ
  | [x], h2, h3, h4, hρ =>
    rw [List.mem_singleton] at hρ
    subst hρ
    exact ⟨h1, h2, h3, h4⟩
  | [x, y], h2, h3, h4, hρ =>
    rcases List.mem_cons.1 hρ with rfl | hρ
    · exact ⟨h1, h2, h3, h4⟩
    · rcases List.mem_append.1 hρ with hρ | hρ
      · have hρ : ρ ∈ if nul (x - k) = true then _ else _ := hρ
        by_cases e : nul (x - k) = true
        · rw [if_pos e, List.mem_singleton] at hρ
          subst hρ
          exact ⟨h1, by simp, fun z hz => h3 z (by simp at hz; simp [hz]), fun h => by simp at h⟩
        · rw [if_neg e] at hρ; cases hρ
      · have hρ : ρ ∈ if nul (y - k) = true then _ else _ := hρ
        by_cases e : nul (y - k) = true
        · rw [if_pos e, List.mem_singleton] at hρ
          subst hρ
          exact ⟨h1, by simp, fun z hz => h3 z (by simp at hz; simp [hz]), fun h => by simp at h⟩
        · rw [if_neg e] at hρ; cases hρ
theorem fuG_ok {g : Grammar} {nul : Int → Bool} (h : ∀ r, r ∈ g.rules → ShOk g.k g.n r) : ∀ r, r ∈ (fuG g nul).rules → ShOk g.k g.n r := fun r hr => by
  obtain ⟨r0, hr0, hr1⟩ := List.mem_flatMap.1 hr
  exact ful_ok (h r0 hr0) hr1
theorem fuG_len {g : Grammar} {S : Nat} (h : ∀ r, r ∈ g.rules → r.right.length ≤ 2) : (fuG g (nuB S)).rules.length ≤ 3 * g.rules.length := by
  have h1 := @fuQ_len g S h g.rules.length (Nat.le_refl _)
  have e : fuQ g S g.rules.length = (fuG g (nuB S)).rules := by unfold fuQ; rw [List.take_length]; rfl
  rwa [e] at h1
def PlR (g : Grammar) (d : D) : Prop := (gcode g ≠ 0 ∧ d = .tu [.ag [iv .i64 0, iv .i64 0, iv .i64 0, .nl], iv .i64 (gcode g)]) ∨ (gcode g = 0 ∧ ∃ S L, DvS (shG g) true S ∧ ChG (fuG (shG g) (nuB S)) ⟨g.k, (shG g).n, 0, L⟩ ∧ L.length ≤ 1000000 ∧ d = .tu [.ag (graD ⟨g.k, (shG g).n, 0, L⟩), iv .i64 0])
set_option maxRecDepth 10000 in
set_option maxHeartbeats 4000000 in
theorem plain_spec (g : Grammar) (hg : g.ok) : Dm.Spec Try.prog 23 [.ag (graD g)] (PlR g) := by
  refine spec_of_vc mixed Try.func23 c23 (by rw [show Try.f23.ntmps = _ from Try.ntmps23]; simp) ?_
  unfold m23 r23
  by_cases hc : gcode g = 0
  rotate_left
  · repeat' first | ((first | refine Br.dec ?_ ?_ | refine Br.eqi ?_ ?_) <;> intro h <;> try (exfalso; omega)) | (simp (disch := first | omega | (simp only [vlen]; first | done | omega)) only [vch, ↓vAq, vBq, ↓reduceIte, Nat.reduceBEq, Nat.reduceEqDiff, Nat.reduceLT, Nat.reduceLeDiff, Nat.reduceAdd, Nat.reduceMul, Nat.reduceSub, reduceCtorEq, Int.reduceToNat]) | (refine Br.mk ?_ ?_ <;> intro h) | (refine BrN.mk (fun h => ?_) ?_) | (refine AltVC.mk ?_ ?_)
    refine CallVC.eq (gCheck_spec g hg) ?_
    repeat' first | ((first | refine Br.dec ?_ ?_ | refine Br.eqi ?_ ?_) <;> intro h <;> try (exfalso; omega)) | (simp (disch := first | omega | (simp only [vlen]; first | done | omega)) only [vch, ↓vAq, vBq, ↓reduceIte, Nat.reduceBEq, Nat.reduceEqDiff, Nat.reduceLT, Nat.reduceLeDiff, Nat.reduceAdd, Nat.reduceMul, Nat.reduceSub, reduceCtorEq, Int.reduceToNat]) | (refine Br.mk ?_ ?_ <;> intro h) | (refine BrN.mk (fun h => ?_) ?_) | (refine AltVC.mk ?_ ?_)
    exact fin_mk (.inl ⟨hc, rfl⟩)
  have hv := valid_of hc
  have hcs := gCheck_spec g hg
  rw [hc] at hcs
  have hsn := shG_n hv
  have hsl := shG_len hv
  have hso := sh_ok hv.pg
  repeat' first | ((first | refine Br.dec ?_ ?_ | refine Br.eqi ?_ ?_) <;> intro h <;> try (exfalso; omega)) | (simp (disch := first | omega | (simp only [vlen]; first | done | omega)) only [vch, ↓vAq, vBq, ↓reduceIte, Nat.reduceBEq, Nat.reduceEqDiff, Nat.reduceLT, Nat.reduceLeDiff, Nat.reduceAdd, Nat.reduceMul, Nat.reduceSub, reduceCtorEq, Int.reduceToNat]) | (refine Br.mk ?_ ?_ <;> intro h) | (refine BrN.mk (fun h => ?_) ?_) | (refine AltVC.mk ?_ ?_)
  refine CallVC.eq hcs ?_
  repeat' first | ((first | refine Br.dec ?_ ?_ | refine Br.eqi ?_ ?_) <;> intro h <;> try (exfalso; omega)) | (simp (disch := first | omega | (simp only [vlen]; first | done | omega)) only [vch, ↓vAq, vBq, ↓reduceIte, Nat.reduceBEq, Nat.reduceEqDiff, Nat.reduceLT, Nat.reduceLeDiff, Nat.reduceAdd, Nat.reduceMul, Nat.reduceSub, reduceCtorEq, Int.reduceToNat]) | (refine Br.mk ?_ ?_ <;> intro h) | (refine BrN.mk (fun h => ?_) ?_) | (refine AltVC.mk ?_ ?_)
  refine CallVC.eq (short_spec g hv) ?_
  repeat' first | ((first | refine Br.dec ?_ ?_ | refine Br.eqi ?_ ?_) <;> intro h <;> try (exfalso; omega)) | (simp (disch := first | omega | (simp only [vlen]; first | done | omega)) only [vch, ↓vAq, vBq, ↓reduceIte, Nat.reduceBEq, Nat.reduceEqDiff, Nat.reduceLT, Nat.reduceLeDiff, Nat.reduceAdd, Nat.reduceMul, Nat.reduceSub, reduceCtorEq, Int.reduceToNat]) | (refine Br.mk ?_ ?_ <;> intro h) | (refine BrN.mk (fun h => ?_) ?_) | (refine AltVC.mk ?_ ?_)
  refine CallVC.mk (full_spec (shG g) (shG_va hv) (by omega) hso) ?_
  rintro _ ⟨S, hS, rfl⟩
  have hfo := @fuG_ok (shG g) (nuB S) hso
  have hfl := @fuG_len (shG g) S fun r hr => (hso r hr).2.1
  obtain ⟨F, hF⟩ : ∃ F, fuG (shG g) (nuB S) = F := ⟨_, rfl⟩
  obtain ⟨N, hN⟩ : ∃ N : Nat, (shG g).n = N := ⟨(shG g).n.toNat, by omega⟩
  have hk : (shG g).k = g.k := rfl
  have hFk : F.k = g.k := by rw [← hF]; rfl
  rw [hF] at hfo hfl
  rw [hk, hN] at hfo
  rw [hN] at hsn
  rw [hF]
  have hvk := hv.k
  repeat' first | ((first | refine Br.dec ?_ ?_ | refine Br.eqi ?_ ?_) <;> intro h <;> try (exfalso; omega)) | (simp (disch := first | omega | (simp only [vlen]; first | done | omega)) only [hk, hN, graD_eq, vch, ↓vAq, vBq, ↓reduceIte, Nat.reduceBEq, Nat.reduceEqDiff, Nat.reduceLT, Nat.reduceLeDiff, Nat.reduceAdd, Nat.reduceMul, Nat.reduceSub, reduceCtorEq, Int.reduceToNat]) | (refine Br.mk ?_ ?_ <;> intro h) | (refine BrN.mk (fun h => ?_) ?_) | (refine AltVC.mk ?_ ?_)
  refine CallVC.mk (chained_spec g.k hvk N (by omega) F.rules (by omega) hfo) ?_
  rintro _ ⟨O, rfl, hO⟩
  repeat' first | ((first | refine Br.dec ?_ ?_ | refine Br.eqi ?_ ?_) <;> intro h <;> try (exfalso; omega)) | (simp (disch := first | omega | (simp only [vlen]; first | done | omega)) only [hk, hN, vch, ↓vAq, vBq, ↓reduceIte, Nat.reduceBEq, Nat.reduceEqDiff, Nat.reduceLT, Nat.reduceLeDiff, Nat.reduceAdd, Nat.reduceMul, Nat.reduceSub, reduceCtorEq, Int.reduceToNat]) | (refine Br.mk ?_ ?_ <;> intro h) | (refine BrN.mk (fun h => ?_) ?_) | (refine AltVC.mk ?_ ?_)
  refine LoopVC.nlo 3 0 3 2 ?_
  repeat' first | ((first | refine Br.dec ?_ ?_ | refine Br.eqi ?_ ?_) <;> intro h <;> try (exfalso; omega)) | (simp (disch := first | omega | (simp only [vlen]; first | done | omega)) only [hk, hN, vch, ↓vAq, vBq, ↓reduceIte, Nat.reduceBEq, Nat.reduceEqDiff, Nat.reduceLT, Nat.reduceLeDiff, Nat.reduceAdd, Nat.reduceMul, Nat.reduceSub, reduceCtorEq, Int.reduceToNat]) | (refine Br.mk ?_ ?_ <;> intro h) | (refine BrN.mk (fun h => ?_) ?_) | (refine AltVC.mk ?_ ?_)
  refine LoopVC.mk (X := Nat × List Rule) (fun x => [(7, .ptr 3 4 0 0), (37, iv .i64 x.1)]) (fun x => [(1, ⟨4, [[iv .i64 0, iv .i64 0, iv .i64 0, .nl]], true, false, .fix⟩), (2, ⟨4, [[iv .i64 g.k, iv .i64 N, iv .i64 (shG g).start, .sl 2 (tbl rulD (shG g).rules)]], true, false, .fix⟩), (3, ⟨4, [[iv .i64 g.k, iv .i64 N, iv .i64 0, .own false 2 (tbl rulD x.2)]], true, true, .fix⟩)]) (fun x => N - x.1) (fun x => x.1 ≤ N ∧ PI g.k N F.rules O x.2 x.1 0 0) (0, []) ⟨Nat.zero_le _, .init⟩ ?_ ?_
  · (simp (disch := first | omega | (simp only [vlen]; first | done | omega)) only [Fits_u, Fits_m, Fits_nil, List.length_append, hk, hN, vch, ↓vAq, vBq, ↓reduceIte, Nat.reduceBEq, Nat.reduceEqDiff, Nat.reduceLT, Nat.reduceLeDiff, Nat.reduceAdd, Nat.reduceMul, Nat.reduceSub, reduceCtorEq, Int.reduceToNat] <;> (repeat' first | rfl | apply And.intro))
    all_goals first | rfl | trace_state
  · rintro ⟨a, L⟩ ⟨ha, hI⟩
    simp only at ha hI ⊢
    have hLl := hI.len
    by_cases hal : a < N
    · have hOa := hO a hal
      repeat' first | ((first | refine Br.dec ?_ ?_ | refine Br.eqi ?_ ?_) <;> intro h <;> try (exfalso; omega)) | (simp (disch := first | omega | (simp only [vlen]; first | done | omega)) only [hk, hN, vch, ↓vAq, vBq, ↓reduceIte, Nat.reduceBEq, Nat.reduceEqDiff, Nat.reduceLT, Nat.reduceLeDiff, Nat.reduceAdd, Nat.reduceMul, Nat.reduceSub, reduceCtorEq, Int.reduceToNat]) | (refine Br.mk ?_ ?_ <;> intro h) | (refine BrN.mk (fun h => ?_) ?_) | (refine AltVC.mk ?_ ?_)
      refine LoopVC.mk (X := Nat × List Rule) (fun x => [(7, .ptr 3 4 0 0), (44, iv .i64 x.1)]) (fun x => [(1, ⟨4, [[iv .i64 0, iv .i64 0, iv .i64 0, .nl]], true, false, .fix⟩), (2, ⟨4, [[iv .i64 g.k, iv .i64 N, iv .i64 (shG g).start, .sl 2 (tbl rulD (shG g).rules)]], true, false, .fix⟩), (3, ⟨4, [[iv .i64 g.k, iv .i64 N, iv .i64 0, .own false 2 (tbl rulD x.2)]], true, true, .fix⟩)]) (fun x => (O a).length - x.1) (fun x => x.1 ≤ (O a).length ∧ PI g.k N F.rules O x.2 a x.1 0) (0, L) ⟨Nat.zero_le _, hI⟩ ?_ ?_
      · (simp (disch := first | omega | (simp only [vlen]; first | done | omega)) only [Fits_u, Fits_m, Fits_nil, List.length_append, hk, hN, vch, ↓vAq, vBq, ↓reduceIte, Nat.reduceBEq, Nat.reduceEqDiff, Nat.reduceLT, Nat.reduceLeDiff, Nat.reduceAdd, Nat.reduceMul, Nat.reduceSub, reduceCtorEq, Int.reduceToNat] <;> (repeat' first | rfl | apply And.intro))
        all_goals first | rfl | trace_state
      · rintro ⟨i, L⟩ ⟨hi, hI⟩
        simp only at hi hI ⊢
        have hLl := hI.len
        by_cases hil : i < (O a).length
        · obtain ⟨b, hb⟩ : ∃ b, (O a).getD i 0 = b := ⟨_, rfl⟩
          repeat' first | ((first | refine Br.dec ?_ ?_ | refine Br.eqi ?_ ?_) <;> intro h <;> try (exfalso; omega)) | (simp (disch := first | omega | (simp only [vlen]; first | done | omega)) only [hk, hN, hb, vch, ↓vAq, vBq, ↓reduceIte, Nat.reduceBEq, Nat.reduceEqDiff, Nat.reduceLT, Nat.reduceLeDiff, Nat.reduceAdd, Nat.reduceMul, Nat.reduceSub, reduceCtorEq, Int.reduceToNat]) | (refine Br.mk ?_ ?_ <;> intro h) | (refine BrN.mk (fun h => ?_) ?_) | (refine AltVC.mk ?_ ?_)
          refine LoopVC.mk (X := Nat × List Rule) (fun x => [(7, .ptr 3 4 0 0), (50, iv .i64 x.1)]) (fun x => [(1, ⟨4, [[iv .i64 0, iv .i64 0, iv .i64 0, .nl]], true, false, .fix⟩), (2, ⟨4, [[iv .i64 g.k, iv .i64 N, iv .i64 (shG g).start, .sl 2 (tbl rulD (shG g).rules)]], true, false, .fix⟩), (3, ⟨4, [[iv .i64 g.k, iv .i64 N, iv .i64 0, .own false 2 (tbl rulD x.2)]], true, true, .fix⟩)]) (fun x => F.rules.length - x.1) (fun x => x.1 ≤ F.rules.length ∧ PI g.k N F.rules O x.2 a i x.1) (0, L) ⟨Nat.zero_le _, hI⟩ ?_ ?_
          · (simp (disch := first | omega | (simp only [vlen]; first | done | omega)) only [Fits_u, Fits_m, Fits_nil, List.length_append, hk, hN, vch, ↓vAq, vBq, ↓reduceIte, Nat.reduceBEq, Nat.reduceEqDiff, Nat.reduceLT, Nat.reduceLeDiff, Nat.reduceAdd, Nat.reduceMul, Nat.reduceSub, reduceCtorEq, Int.reduceToNat] <;> (repeat' first | rfl | apply And.intro))
            all_goals first | rfl | trace_state
          · rintro ⟨q, L⟩ ⟨hq, hI⟩
            simp only at hq hI ⊢
            have hLl := hI.len
            by_cases hql : q < F.rules.length
            · have hmr := getD_mem' (l := F.rules) (i := q) hql
              have ho := hfo _ hmr
              obtain ⟨⟨l, R⟩, hr⟩ : ∃ r, F.rules.getD q default = r := ⟨_, rfl⟩
              rw [hr] at ho
              obtain ⟨⟨o1, o2⟩, o3, o4, o5⟩ := ho
              simp only at o1 o2 o3 o4 o5
              by_cases hl : l = b
              · have hsg := single_spec g.k ⟨b, R⟩ (by show R.length ≤ _; omega)
                have hb2 : F.rules.getD q default = ⟨(O a).getD i 0, R⟩ := by rw [hr, hl, hb]
                cases hs : isSg g.k ⟨b, R⟩ with
                | true =>
                  rw [hs] at hsg
                  repeat' first | ((first | refine Br.dec ?_ ?_ | refine Br.eqi ?_ ?_) <;> intro h <;> try (exfalso; omega)) | (simp (disch := first | omega | (simp only [vlen]; first | done | omega)) only [hk, hN, hr, hl, vch, ↓vAq, vBq, ↓reduceIte, Nat.reduceBEq, Nat.reduceEqDiff, Nat.reduceLT, Nat.reduceLeDiff, Nat.reduceAdd, Nat.reduceMul, Nat.reduceSub, reduceCtorEq, Int.reduceToNat]) | (refine Br.mk ?_ ?_ <;> intro h) | (refine BrN.mk (fun h => ?_) ?_) | (refine AltVC.mk ?_ ?_)
                  refine CallVC.eq hsg ?_
                  repeat' first | ((first | refine Br.dec ?_ ?_ | refine Br.eqi ?_ ?_) <;> intro h <;> try (exfalso; omega)) | (simp (disch := first | omega | (simp only [vlen]; first | done | omega)) only [hk, hN, hr, hl, vch, ↓vAq, vBq, ↓reduceIte, Nat.reduceBEq, Nat.reduceEqDiff, Nat.reduceLT, Nat.reduceLeDiff, Nat.reduceAdd, Nat.reduceMul, Nat.reduceSub, reduceCtorEq, Int.reduceToNat]) | (refine Br.mk ?_ ?_ <;> intro h) | (refine BrN.mk (fun h => ?_) ?_) | (refine AltVC.mk ?_ ?_)
                  refine loopK.mk (q + 1, L) (by simp (disch := first | omega | (simp only [vlen]; first | done | omega)) only [vch, ↓vAq, vBq, ↓reduceIte, Nat.reduceBEq, Nat.reduceEqDiff, Nat.reduceLT, Nat.reduceLeDiff, Nat.reduceAdd, Nat.reduceMul, Nat.reduceSub, reduceCtorEq, Int.reduceToNat]) ⟨by show q + 1 ≤ _; omega, hI.skip hql fun R' e h => ?_⟩ (by show F.rules.length - (q + 1) < F.rules.length - q; omega) ?_
                  · exfalso
                    rw [hr] at e
                    have e : R = R' := congrArg Rule.right e
                    rw [hb, ← e, hs] at h
                    cases h
                  (simp (disch := first | omega | (simp only [vlen]; first | done | omega)) only [Fits_u, Fits_m, Fits_nil, List.length_append, vch, ↓vAq, vBq, ↓reduceIte, Nat.reduceBEq, Nat.reduceEqDiff, Nat.reduceLT, Nat.reduceLeDiff, Nat.reduceAdd, Nat.reduceMul, Nat.reduceSub, reduceCtorEq, Int.reduceToNat] <;> (repeat' first | rfl | apply And.intro))
                  all_goals first | rfl | trace_state
                | false =>
                  rw [hs] at hsg
                  have hI2 := hI.add hal hOa.2 hil hql hb2 (by rw [hb]; exact hs)
                  have hcl := cloneP_int R (by omega)
                  repeat' first | ((first | refine Br.dec ?_ ?_ | refine Br.eqi ?_ ?_) <;> intro h <;> try (exfalso; omega)) | (simp (disch := first | omega | (simp only [vlen]; first | done | omega)) only [hk, hN, hr, hl, vch, ↓vAq, vBq, ↓reduceIte, Nat.reduceBEq, Nat.reduceEqDiff, Nat.reduceLT, Nat.reduceLeDiff, Nat.reduceAdd, Nat.reduceMul, Nat.reduceSub, reduceCtorEq, Int.reduceToNat]) | (refine Br.mk ?_ ?_ <;> intro h) | (refine BrN.mk (fun h => ?_) ?_) | (refine AltVC.mk ?_ ?_)
                  refine CallVC.eq hsg ?_
                  repeat' first | ((first | refine Br.dec ?_ ?_ | refine Br.eqi ?_ ?_) <;> intro h <;> try (exfalso; omega)) | (simp (disch := first | omega | (simp only [vlen]; first | done | omega)) only [hk, hN, hr, hl, vch, ↓vAq, vBq, ↓reduceIte, Nat.reduceBEq, Nat.reduceEqDiff, Nat.reduceLT, Nat.reduceLeDiff, Nat.reduceAdd, Nat.reduceMul, Nat.reduceSub, reduceCtorEq, Int.reduceToNat]) | (refine Br.mk ?_ ?_ <;> intro h) | (refine BrN.mk (fun h => ?_) ?_) | (refine AltVC.mk ?_ ?_)
                  refine CallVC.eq hcl ?_
                  repeat' first | ((first | refine Br.dec ?_ ?_ | refine Br.eqi ?_ ?_) <;> intro h <;> try (exfalso; omega)) | (simp (disch := first | omega | (simp only [vlen]; first | done | omega)) only [hk, hN, hr, hl, vch, ↓vAq, vBq, ↓reduceIte, Nat.reduceBEq, Nat.reduceEqDiff, Nat.reduceLT, Nat.reduceLeDiff, Nat.reduceAdd, Nat.reduceMul, Nat.reduceSub, reduceCtorEq, Int.reduceToNat]) | (refine Br.mk ?_ ?_ <;> intro h) | (refine BrN.mk (fun h => ?_) ?_) | (refine AltVC.mk ?_ ?_)
                  have hco := conF_rule L (fun x => sameB x ⟨a, R⟩) 56 [.ip (rulD ⟨a, R⟩) 0] (by omega) (by simp (disch := first | omega | (simp only [vlen]; first | done | omega)) only [vch, ↓vAq, vBq, ↓reduceIte, Nat.reduceBEq, Nat.reduceEqDiff, Nat.reduceLT, Nat.reduceLeDiff, Nat.reduceAdd, Nat.reduceMul, Nat.reduceSub, reduceCtorEq, Int.reduceToNat]) (fun r h => sameC_spec r ⟨a, R⟩ (by obtain ⟨_, b', _, h2, _⟩ := hI.sd r h; have := (hfo _ h2).2.1; simp only at this; omega) (by show R.length ≤ 1000; omega))
                  cases hA : L.any fun x => sameB x ⟨a, R⟩ with
                  | true =>
                    rw [hA] at hco
                    refine CallVC.eqo hco plain_v ?_
                    repeat' first | ((first | refine Br.dec ?_ ?_ | refine Br.eqi ?_ ?_) <;> intro h <;> try (exfalso; omega)) | (simp (disch := first | omega | (simp only [vlen]; first | done | omega)) only [hk, hN, hr, hl, vch, ↓vAq, vBq, ↓reduceIte, Nat.reduceBEq, Nat.reduceEqDiff, Nat.reduceLT, Nat.reduceLeDiff, Nat.reduceAdd, Nat.reduceMul, Nat.reduceSub, reduceCtorEq, Int.reduceToNat]) | (refine Br.mk ?_ ?_ <;> intro h) | (refine BrN.mk (fun h => ?_) ?_) | (refine AltVC.mk ?_ ?_)
                    refine loopK.fold 6 3 0 3 true ?_
                    repeat' first | ((first | refine Br.dec ?_ ?_ | refine Br.eqi ?_ ?_) <;> intro h <;> try (exfalso; omega)) | (simp (disch := first | omega | (simp only [vlen]; first | done | omega)) only [hk, hN, hr, hl, vch, ↓vAq, vBq, ↓reduceIte, Nat.reduceBEq, Nat.reduceEqDiff, Nat.reduceLT, Nat.reduceLeDiff, Nat.reduceAdd, Nat.reduceMul, Nat.reduceSub, reduceCtorEq, Int.reduceToNat]) | (refine Br.mk ?_ ?_ <;> intro h) | (refine BrN.mk (fun h => ?_) ?_) | (refine AltVC.mk ?_ ?_)
                    refine loopK.mk (q + 1, L) (by simp (disch := first | omega | (simp only [vlen]; first | done | omega)) only [vch, ↓vAq, vBq, ↓reduceIte, Nat.reduceBEq, Nat.reduceEqDiff, Nat.reduceLT, Nat.reduceLeDiff, Nat.reduceAdd, Nat.reduceMul, Nat.reduceSub, reduceCtorEq, Int.reduceToNat]) ⟨by show q + 1 ≤ _; omega, hI.skip hql fun R' e h => ?_⟩ (by show F.rules.length - (q + 1) < F.rules.length - q; omega) ?_
                    · rw [hr] at e
                      have e : R = R' := congrArg Rule.right e
                      obtain ⟨x, hx, hx2⟩ := List.any_eq_true.1 hA
                      rw [← e, ← sameB_iff.1 hx2]; exact hx
                    (simp (disch := first | omega | (simp only [vlen]; first | done | omega)) only [Fits_u, Fits_m, Fits_nil, List.length_append, vch, ↓vAq, vBq, ↓reduceIte, Nat.reduceBEq, Nat.reduceEqDiff, Nat.reduceLT, Nat.reduceLeDiff, Nat.reduceAdd, Nat.reduceMul, Nat.reduceSub, reduceCtorEq, Int.reduceToNat] <;> (repeat' first | rfl | apply And.intro))
                    all_goals first | rfl | trace_state
                  | false =>
                    rw [hA] at hco
                    refine CallVC.eqo hco plain_v ?_
                    repeat' first | ((first | refine Br.dec ?_ ?_ | refine Br.eqi ?_ ?_) <;> intro h <;> try (exfalso; omega)) | (simp (disch := first | omega | (simp only [vlen]; first | done | omega)) only [hk, hN, hr, hl, vch, ↓vAq, vBq, ↓reduceIte, Nat.reduceBEq, Nat.reduceEqDiff, Nat.reduceLT, Nat.reduceLeDiff, Nat.reduceAdd, Nat.reduceMul, Nat.reduceSub, reduceCtorEq, Int.reduceToNat]) | (refine Br.mk ?_ ?_ <;> intro h) | (refine BrN.mk (fun h => ?_) ?_) | (refine AltVC.mk ?_ ?_)
                    have hl2 : (L ++ [(⟨a, R⟩ : Rule)]).length = L.length + 1 := by simp
                    refine loopK.fold 6 3 0 3 true ?_
                    repeat' first | ((first | refine Br.dec ?_ ?_ | refine Br.eqi ?_ ?_) <;> intro h <;> try (exfalso; omega)) | (simp (disch := first | omega | (simp only [vlen]; first | done | omega)) only [hl2, hk, hN, hr, hl, vch, ↓vAq, vBq, ↓reduceIte, Nat.reduceBEq, Nat.reduceEqDiff, Nat.reduceLT, Nat.reduceLeDiff, Nat.reduceAdd, Nat.reduceMul, Nat.reduceSub, reduceCtorEq, Int.reduceToNat]) | (refine Br.mk ?_ ?_ <;> intro h) | (refine BrN.mk (fun h => ?_) ?_) | (refine AltVC.mk ?_ ?_)
                    refine loopK.mk (q + 1, L ++ [⟨a, R⟩]) (by simp (disch := first | omega | (simp only [vlen]; first | done | omega)) only [vch, ↓vAq, vBq, ↓reduceIte, Nat.reduceBEq, Nat.reduceEqDiff, Nat.reduceLT, Nat.reduceLeDiff, Nat.reduceAdd, Nat.reduceMul, Nat.reduceSub, reduceCtorEq, Int.reduceToNat]) ⟨by show q + 1 ≤ _; omega, hI2⟩ (by show F.rules.length - (q + 1) < F.rules.length - q; omega) ?_
                    (simp (disch := first | omega | (simp only [vlen]; first | done | omega)) only [Fits_u, Fits_m, Fits_nil, List.length_append, hl2, vch, ↓vAq, vBq, ↓reduceIte, Nat.reduceBEq, Nat.reduceEqDiff, Nat.reduceLT, Nat.reduceLeDiff, Nat.reduceAdd, Nat.reduceMul, Nat.reduceSub, reduceCtorEq, Int.reduceToNat] <;> (repeat' first | rfl | apply And.intro))
                    all_goals first | rfl | trace_state
              · repeat' first | ((first | refine Br.dec ?_ ?_ | refine Br.eqi ?_ ?_) <;> intro h <;> try (exfalso; omega)) | (simp (disch := first | omega | (simp only [vlen]; first | done | omega)) only [hk, hN, hr, vch, ↓vAq, vBq, ↓reduceIte, Nat.reduceBEq, Nat.reduceEqDiff, Nat.reduceLT, Nat.reduceLeDiff, Nat.reduceAdd, Nat.reduceMul, Nat.reduceSub, reduceCtorEq, Int.reduceToNat]) | (refine Br.mk ?_ ?_ <;> intro h) | (refine BrN.mk (fun h => ?_) ?_) | (refine AltVC.mk ?_ ?_)
                refine loopK.mk (q + 1, L) (by simp (disch := first | omega | (simp only [vlen]; first | done | omega)) only [vch, ↓vAq, vBq, ↓reduceIte, Nat.reduceBEq, Nat.reduceEqDiff, Nat.reduceLT, Nat.reduceLeDiff, Nat.reduceAdd, Nat.reduceMul, Nat.reduceSub, reduceCtorEq, Int.reduceToNat]) ⟨by show q + 1 ≤ _; omega, hI.skip hql fun R' e h => ?_⟩ (by show F.rules.length - (q + 1) < F.rules.length - q; omega) ?_
                · rw [hr] at e
                  exact absurd (by have e : l = (O a).getD i 0 := congrArg Rule.left e
                                   rw [e, hb]) hl
                (simp (disch := first | omega | (simp only [vlen]; first | done | omega)) only [Fits_u, Fits_m, Fits_nil, List.length_append, vch, ↓vAq, vBq, ↓reduceIte, Nat.reduceBEq, Nat.reduceEqDiff, Nat.reduceLT, Nat.reduceLeDiff, Nat.reduceAdd, Nat.reduceMul, Nat.reduceSub, reduceCtorEq, Int.reduceToNat] <;> (repeat' first | rfl | apply And.intro))
                all_goals first | rfl | trace_state
            · have hqe : q = F.rules.length := by omega
              subst hqe
              repeat' first | ((first | refine Br.dec ?_ ?_ | refine Br.eqi ?_ ?_) <;> intro h <;> try (exfalso; omega)) | (simp (disch := first | omega | (simp only [vlen]; first | done | omega)) only [vch, ↓vAq, vBq, ↓reduceIte, Nat.reduceBEq, Nat.reduceEqDiff, Nat.reduceLT, Nat.reduceLeDiff, Nat.reduceAdd, Nat.reduceMul, Nat.reduceSub, reduceCtorEq, Int.reduceToNat]) | (refine Br.mk ?_ ?_ <;> intro h) | (refine BrN.mk (fun h => ?_) ?_) | (refine AltVC.mk ?_ ?_)
              refine loopK.mk (i + 1, L) (by simp (disch := first | omega | (simp only [vlen]; first | done | omega)) only [vch, ↓vAq, vBq, ↓reduceIte, Nat.reduceBEq, Nat.reduceEqDiff, Nat.reduceLT, Nat.reduceLeDiff, Nat.reduceAdd, Nat.reduceMul, Nat.reduceSub, reduceCtorEq, Int.reduceToNat]) ⟨by show i + 1 ≤ (O a).length; omega, hI.next (by omega)⟩ (by show (O a).length - (i + 1) < (O a).length - i; omega) ?_
              (simp (disch := first | omega | (simp only [vlen]; first | done | omega)) only [Fits_u, Fits_m, Fits_nil, List.length_append, vch, ↓vAq, vBq, ↓reduceIte, Nat.reduceBEq, Nat.reduceEqDiff, Nat.reduceLT, Nat.reduceLeDiff, Nat.reduceAdd, Nat.reduceMul, Nat.reduceSub, reduceCtorEq, Int.reduceToNat] <;> (repeat' first | rfl | apply And.intro))
              all_goals first | rfl | trace_state
        · repeat' first | ((first | refine Br.dec ?_ ?_ | refine Br.eqi ?_ ?_) <;> intro h <;> try (exfalso; omega)) | (simp (disch := first | omega | (simp only [vlen]; first | done | omega)) only [vch, ↓vAq, vBq, ↓reduceIte, Nat.reduceBEq, Nat.reduceEqDiff, Nat.reduceLT, Nat.reduceLeDiff, Nat.reduceAdd, Nat.reduceMul, Nat.reduceSub, reduceCtorEq, Int.reduceToNat]) | (refine Br.mk ?_ ?_ <;> intro h) | (refine BrN.mk (fun h => ?_) ?_) | (refine AltVC.mk ?_ ?_)
          refine loopK.mk (a + 1, L) (by simp (disch := first | omega | (simp only [vlen]; first | done | omega)) only [vch, ↓vAq, vBq, ↓reduceIte, Nat.reduceBEq, Nat.reduceEqDiff, Nat.reduceLT, Nat.reduceLeDiff, Nat.reduceAdd, Nat.reduceMul, Nat.reduceSub, reduceCtorEq, Int.reduceToNat]) ⟨by show a + 1 ≤ N; omega, hI.row (by omega) (by omega) hOa.2⟩ (by show N - (a + 1) < N - a; omega) ?_
          (simp (disch := first | omega | (simp only [vlen]; first | done | omega)) only [Fits_u, Fits_m, Fits_nil, List.length_append, vch, ↓vAq, vBq, ↓reduceIte, Nat.reduceBEq, Nat.reduceEqDiff, Nat.reduceLT, Nat.reduceLeDiff, Nat.reduceAdd, Nat.reduceMul, Nat.reduceSub, reduceCtorEq, Int.reduceToNat] <;> (repeat' first | rfl | apply And.intro))
          all_goals first | rfl | trace_state
    · have hae : a = N := by omega
      subst hae
      repeat' first | ((first | refine Br.dec ?_ ?_ | refine Br.eqi ?_ ?_) <;> intro h <;> try (exfalso; omega)) | (simp (disch := first | omega | (simp only [vlen]; first | done | omega)) only [vch, ↓vAq, vBq, ↓reduceIte, Nat.reduceBEq, Nat.reduceEqDiff, Nat.reduceLT, Nat.reduceLeDiff, Nat.reduceAdd, Nat.reduceMul, Nat.reduceSub, reduceCtorEq, Int.reduceToNat]) | (refine Br.mk ?_ ?_ <;> intro h) | (refine BrN.mk (fun h => ?_) ?_) | (refine AltVC.mk ?_ ?_)
      refine GhoV.frz 3 ?_
      repeat' first | ((first | refine Br.dec ?_ ?_ | refine Br.eqi ?_ ?_) <;> intro h <;> try (exfalso; omega)) | (simp (disch := first | omega | (simp only [vlen]; first | done | omega)) only [vch, ↓vAq, vBq, ↓reduceIte, Nat.reduceBEq, Nat.reduceEqDiff, Nat.reduceLT, Nat.reduceLeDiff, Nat.reduceAdd, Nat.reduceMul, Nat.reduceSub, reduceCtorEq, Int.reduceToNat]) | (refine Br.mk ?_ ?_ <;> intro h) | (refine BrN.mk (fun h => ?_) ?_) | (refine AltVC.mk ?_ ?_)
      refine GhoV.go ?_
      repeat' first | ((first | refine Br.dec ?_ ?_ | refine Br.eqi ?_ ?_) <;> intro h <;> try (exfalso; omega)) | (simp (disch := first | omega | (simp only [vlen]; first | done | omega)) only [vch, ↓vAq, vBq, ↓reduceIte, Nat.reduceBEq, Nat.reduceEqDiff, Nat.reduceLT, Nat.reduceLeDiff, Nat.reduceAdd, Nat.reduceMul, Nat.reduceSub, reduceCtorEq, Int.reduceToNat]) | (refine Br.mk ?_ ?_ <;> intro h) | (refine BrN.mk (fun h => ?_) ?_) | (refine AltVC.mk ?_ ?_)
      have hCh := PI.fin (F := fuG (shG g) (nuB S)) (by show 0 ≤ g.k; omega) (fun r hr => by rw [hF] at hr; exact (hfo r hr).1) (by show PI g.k a (fuG (shG g) (nuB S)).rules O L a 0 0; rw [hF]; exact hI)
      refine fin_mk (.inr ⟨hc, S, L, hS, ?_, by omega, ?_⟩)
      · rw [hN]; exact hCh
      · rw [hN]; rfl
end Go.Proofs.Ytplkkacfjepgpaa

namespace Go.Proofs.Ytplkkacfjepgpaa
open Go.Dm
set_option linter.unusedSimpArgs false
set_option linter.unnecessarySimpa false
set_option linter.unusedVariables false
def plainR (g : Grammar) (r : Rule) : Bool := decide ((r.right.length = 1 ∧ 0 ≤ r.right.getD 0 0 ∧ r.right.getD 0 0 < g.k) ∨ (r.right.length = 2 ∧ g.k ≤ r.right.getD 0 0 ∧ g.k ≤ r.right.getD 1 0))
def isPlain (g : Grammar) : Bool := g.rules.all (plainR g)
set_option maxRecDepth 10000 in
set_option maxHeartbeats 4000000 in
theorem refPlain_spec (g : Grammar) (hr : g.rules.length ≤ 9223372036854775807) (hl : ∀ r, r ∈ g.rules → r.right.length ≤ 1000) : Dm.Spec Try.prog 24 [.ag (graD g)] (· = .v (.bool (isPlain g))) := by
  refine spec_of_vc mixed Try.func24 c24 (by rw [show Try.f24.ntmps = _ from Try.ntmps24]; simp) ?_
  unfold m24 r24
  repeat' first | ((first | refine Br.dec ?_ ?_ | refine Br.eqi ?_ ?_) <;> intro h <;> try (exfalso; omega)) | (simp (disch := first | omega | (simp only [vlen]; first | done | omega)) only [↓vAq, vBq, ↓reduceIte, Nat.reduceBEq, Nat.reduceEqDiff, Nat.reduceLT, Nat.reduceLeDiff, Nat.reduceAdd, Nat.reduceMul, Nat.reduceSub, reduceCtorEq, Int.reduceToNat]) | (refine Br.mk ?_ ?_ <;> intro h) | (refine BrN.mk (fun h => ?_) ?_) | (refine AltVC.mk ?_ ?_)
  refine LoopVC.mk (X := Nat) (fun i => [(8, iv .i64 i)]) (fun _ => [(0, ⟨4, [[iv .i64 g.k, iv .i64 g.n, iv .i64 g.start, .sl 2 (tbl rulD g.rules)]], true, false, .fix⟩)]) (fun i => g.rules.length - i) (fun i => i ≤ g.rules.length ∧ ∀ j, j < i → plainR g (g.rules.getD j default) = true) 0 ⟨by omega, by omega⟩ ?_ ?_
  · (simp (disch := first | omega | (simp only [vlen]; first | done | omega)) only [Fits_u, Fits_m, Fits_nil, List.length_append, ↓vAq, vBq, ↓reduceIte, Nat.reduceBEq, Nat.reduceEqDiff, Nat.reduceLT, Nat.reduceLeDiff, Nat.reduceAdd, Nat.reduceMul, Nat.reduceSub, reduceCtorEq, Int.reduceToNat] <;> (repeat' first | rfl | apply And.intro))
  · rintro i ⟨h1, h2⟩
    have hb : i < g.rules.length → (g.rules.getD i default).right.length ≤ 1000 := fun h => hl _ (getD_mem' h)
    repeat' first | ((first | refine Br.dec ?_ ?_ | refine Br.eqi ?_ ?_) <;> intro h <;> try (exfalso; omega)) | (simp (disch := first | omega | (simp only [vlen]; first | done | omega)) only [↓vAq, vBq, ↓reduceIte, Nat.reduceBEq, Nat.reduceEqDiff, Nat.reduceLT, Nat.reduceLeDiff, Nat.reduceAdd, Nat.reduceMul, Nat.reduceSub, reduceCtorEq, Int.reduceToNat]) | (refine Br.mk ?_ ?_ <;> intro h) | (refine BrN.mk (fun h => ?_) ?_) | (refine AltVC.mk ?_ ?_)
    all_goals first
      | exact fin_mk (vbEq (all_none (i := i) (by omega) h2).symm)
      | exact fin_mk (vbEq (all_hit (p := plainR g) (i := i) (by omega) (by unfold plainR; exact decide_eq_false (by omega))).symm)
      | exact loopK.mk (i + 1) (by simp (disch := first | omega | (simp only [vlen]; first | done | omega)) only [↓vAq, vBq, ↓reduceIte, Nat.reduceBEq, Nat.reduceEqDiff, Nat.reduceLT, Nat.reduceLeDiff, Nat.reduceAdd, Nat.reduceMul, Nat.reduceSub, reduceCtorEq, Int.reduceToNat]) ⟨by omega, succ_all h2 (by unfold plainR; exact decide_eq_true (by omega))⟩ (by omega) (by (simp (disch := first | omega | (simp only [vlen]; first | done | omega)) only [Fits_u, Fits_m, Fits_nil, List.length_append, ↓vAq, vBq, ↓reduceIte, Nat.reduceBEq, Nat.reduceEqDiff, Nat.reduceLT, Nat.reduceLeDiff, Nat.reduceAdd, Nat.reduceMul, Nat.reduceSub, reduceCtorEq, Int.reduceToNat] <;> (repeat' first | rfl | apply And.intro)))
end Go.Proofs.Ytplkkacfjepgpaa

namespace Go.Proofs.Ytplkkacfjepgpaa
open Go.Dm
set_option linter.unusedSimpArgs false
set_option linter.unnecessarySimpa false
set_option linter.unusedVariables false
structure VM (m : Dm.Machine) : Prop where
  n : 1 ≤ m.n ∧ m.n ≤ 7
  k : 1 ≤ m.k ∧ m.k ≤ 3
  len : (m.next.length : Int) = m.n
  row : ∀ l, l ∈ m.next → (l.length : Int) = m.k
  to : ∀ l, l ∈ m.next → ∀ x, x ∈ l → 0 ≤ x ∧ x < m.n
  start : 0 ≤ m.start ∧ m.start < m.n
  final : 0 ≤ m.final ∧ m.final.toNat < 2 ^ m.n.toNat
end Go.Proofs.Ytplkkacfjepgpaa

namespace Go.Proofs.Ytplkkacfjepgpaa
open Go.Dm
set_option linter.unusedSimpArgs false
set_option linter.unnecessarySimpa false
set_option linter.unusedVariables false
def badSym (k s : Int) : Bool := decide (s < 0 ∨ k ≤ s)
def wcode (k : Int) (w : List Int) : Int := if 12 < (w.length : Int) then 1 else if w.any (badSym k) = true then 2 else 0
theorem wcode_ok {k : Int} {w : List Int} (h : wcode k w = 0) : w.length ≤ 12 ∧ ∀ s, s ∈ w → 0 ≤ s ∧ s < k := by
  unfold wcode at h
  split at h
  · omega
  · split at h
    · omega
    · next h1 h2 =>
      refine ⟨by omega, fun s hs => ?_⟩
      have : ¬ badSym k s = true := fun e => h2 (List.any_eq_true.2 ⟨s, hs, e⟩)
      unfold badSym at this
      rw [decide_eq_true_eq] at this
      omega
theorem getD_ok {k : Int} {w : List Int} (hk : 1 ≤ k) (h : ∀ s, s ∈ w → 0 ≤ s ∧ s < k) (i : Nat) : 0 ≤ w.getD i 0 ∧ w.getD i 0 < k := by
  by_cases hi : i < w.length
  · exact h _ (getD_mem' hi)
  · rw [show w.getD i 0 = 0 by simp [List.getD, show w[i]? = none from List.getElem?_eq_none (by omega)]]; omega
def mstep (m : Dm.Machine) (p s : Int) : Int := (m.next.getD p.toNat default).getD s.toNat 0
def leads (m : Dm.Machine) (p : Int) (w : List Int) : Int := w.foldl (mstep m) p
theorem VM.st {m : Dm.Machine} (hv : VM m) {p s : Int} (hp : 0 ≤ p ∧ p < m.n) : 0 ≤ mstep m p s ∧ mstep m p s < m.n := by
  have := hv.len
  exact getD_ok (by have := hv.n; omega) (hv.to _ (getD_mem' (by omega))) _
set_option maxRecDepth 10000 in
set_option maxHeartbeats 4000000 in
theorem refWord_spec (k : Int) (hk : 0 ≤ k ∧ k ≤ 3) (w : List Int) (hw : w.length ≤ 9223372036854775807) : Dm.Spec Try.prog 26 [iv .i64 k, .sl 1 (i64s w)] (· = iv .i64 (wcode k w)) := by
  refine spec_of_vc mixed Try.func26 c26 (by rw [show Try.f26.ntmps = _ from Try.ntmps26]; simp) ?_
  unfold m26 r26
  repeat' first | ((first | refine Br.dec ?_ ?_ | refine Br.eqi ?_ ?_) <;> intro h <;> try (exfalso; omega)) | (simp (disch := first | omega | (simp only [vlen]; first | done | omega)) only [↓vAq, vBq, ↓reduceIte, Nat.reduceBEq, Nat.reduceEqDiff, Nat.reduceLT, Nat.reduceLeDiff, Nat.reduceAdd, Nat.reduceMul, Nat.reduceSub, reduceCtorEq, Int.reduceToNat]) | (refine Br.mk ?_ ?_ <;> intro h) | (refine BrN.mk (fun h => ?_) ?_) | (refine AltVC.mk ?_ ?_)
  · exact fin_mk (by rw [wcode, if_pos (by assumption)])
  · refine LoopVC.mk (X := Nat) (fun i => [(12, iv .i64 i)]) (fun _ => []) (fun i => w.length - i) (fun i => i ≤ w.length ∧ ∀ j, j < i → badSym k (w.getD j 0) = false) 0 ⟨by omega, by omega⟩ ?_ ?_
    · (simp (disch := first | omega | (simp only [vlen]; first | done | omega)) only [Fits_u, Fits_m, Fits_nil, List.length_append, ↓vAq, vBq, ↓reduceIte, Nat.reduceBEq, Nat.reduceEqDiff, Nat.reduceLT, Nat.reduceLeDiff, Nat.reduceAdd, Nat.reduceMul, Nat.reduceSub, reduceCtorEq, Int.reduceToNat] <;> (repeat' first | rfl | apply And.intro))
    · rintro i ⟨h1, h2⟩
      repeat' first | ((first | refine Br.dec ?_ ?_ | refine Br.eqi ?_ ?_) <;> intro h <;> try (exfalso; omega)) | (simp (disch := first | omega | (simp only [vlen]; first | done | omega)) only [↓vAq, vBq, ↓reduceIte, Nat.reduceBEq, Nat.reduceEqDiff, Nat.reduceLT, Nat.reduceLeDiff, Nat.reduceAdd, Nat.reduceMul, Nat.reduceSub, reduceCtorEq, Int.reduceToNat]) | (refine Br.mk ?_ ?_ <;> intro h) | (refine BrN.mk (fun h => ?_) ?_) | (refine AltVC.mk ?_ ?_)
      · exact fin_mk (by rw [wcode, if_neg (by assumption), if_pos (any_hit (p := badSym k) (i := i) (by omega) (decide_eq_true (.inl (by assumption))))])
      · exact fin_mk (by rw [wcode, if_neg (by assumption), if_pos (any_hit (p := badSym k) (i := i) (by omega) (decide_eq_true (.inr (by assumption))))])
      · exact loopK.mk (i + 1) (by simp (disch := first | omega | (simp only [vlen]; first | done | omega)) only [↓vAq, vBq, ↓reduceIte, Nat.reduceBEq, Nat.reduceEqDiff, Nat.reduceLT, Nat.reduceLeDiff, Nat.reduceAdd, Nat.reduceMul, Nat.reduceSub, reduceCtorEq, Int.reduceToNat]) ⟨by omega, succ_all h2 (decide_eq_false (by show ¬ (w.getD i 0 < 0 ∨ k ≤ w.getD i 0); omega))⟩ (by omega) (by (simp (disch := first | omega | (simp only [vlen]; first | done | omega)) only [Fits_u, Fits_m, Fits_nil, List.length_append, ↓vAq, vBq, ↓reduceIte, Nat.reduceBEq, Nat.reduceEqDiff, Nat.reduceLT, Nat.reduceLeDiff, Nat.reduceAdd, Nat.reduceMul, Nat.reduceSub, reduceCtorEq, Int.reduceToNat] <;> (repeat' first | rfl | apply And.intro)))
      · have h3 : w.any (badSym k) = false := any_none (i := i) (by omega) h2
        exact fin_mk (by rw [wcode, if_neg (by assumption), if_neg (by rw [h3]; simp)])
end Go.Proofs.Ytplkkacfjepgpaa

namespace Go.Proofs.Ytplkkacfjepgpaa
open Go.Dm
set_option linter.unusedSimpArgs false
set_option linter.unnecessarySimpa false
set_option linter.unusedVariables false
set_option linter.defProp false
theorem ov_oneG {g : Grammar} {w : List Int} {t : Nat → Nat → Nat → Bool} {x : Int} {i j : Nat} (h : i ≤ j) : ovB g w t [x] i j = oneB g w t x i j := by
  rw [Bool.eq_iff_iff, ovB_cons]
  constructor
  · rintro ⟨m, h1, h2, h3, h4⟩
    have : m = j := by simpa [ovB] using h4
    subst this; exact h3
  · intro h3; exact ⟨j, h, Nat.le_refl _, h3, by simp [ovB]⟩
theorem tab_bitG {g : Grammar} {w : List Int} {T : Nat → Nat → Nat → Bool} (h : ∀ l i j, i ≤ w.length → (ovB g w T l i j = true ↔ Der g w l i j)) {a i j : Nat} (hi : i ≤ j) (hj : j ≤ w.length) : T a i j = true ↔ Der g w [g.k + a] i j := by
  rw [← h [g.k + a] i j (by omega), ov_oneG hi]
  unfold oneB
  rw [if_neg (by omega), show (g.k + (a : Int) - g.k).toNat = a by omega]
set_option maxRecDepth 10000 in
set_option maxHeartbeats 4000000 in
theorem takesG_spec (g : Grammar) (w : List Int) (hc : CVG g w) (hst : 0 ≤ g.start ∧ g.start < g.n) : Dm.Spec Try.prog 20 [.ag (graD g), .sl 1 (i64s w)] (fun d => ∃ b, d = .v (.bool b) ∧ (b = true ↔ Der g w [g.k + g.start] 0 w.length)) := by
  refine spec_of_vc mixed Try.func20 c20 (by rw [show Try.f20.ntmps = _ from Try.ntmps20]; simp) ?_
  unfold m20 r20
  have hk := hc.v.k
  have hn := hc.v.n
  have hwl := hc.w
  obtain ⟨N, hN⟩ : ∃ N : Nat, g.n = N := ⟨g.n.toNat, by omega⟩
  obtain ⟨st, hste⟩ : ∃ st : Nat, g.start = st := ⟨g.start.toNat, by omega⟩
  repeat' first | ((first | refine Br.dec ?_ ?_ | refine Br.eqi ?_ ?_) <;> intro h <;> try (exfalso; omega)) | (simp (disch := first | omega | (simp only [vlen]; first | done | omega)) only [vct, ↓vAq, vBq, ↓reduceIte, Nat.reduceBEq, Nat.reduceEqDiff, Nat.reduceLT, Nat.reduceLeDiff, Nat.reduceAdd, Nat.reduceMul, Nat.reduceSub, reduceCtorEq, Int.reduceToNat]) | (refine Br.mk ?_ ?_ <;> intro h) | (refine BrN.mk (fun h => ?_) ?_) | (refine AltVC.mk ?_ ?_)
  refine CallP.mk (tableG_spec g w hc N (w.length + 1) hN rfl) ?_
  rintro _ ⟨T, rfl, hT⟩
  refine ⟨by simp, ?_⟩
  have hb := tab_bitG hT (a := st) (Nat.zero_le _) (Nat.le_refl w.length)
  rw [← hste] at hb
  have hbl := @tbb_len (w.length + 1) (fun j => T st 0 j)
  repeat' first | ((first | refine Br.dec ?_ ?_ | refine Br.eqi ?_ ?_) <;> intro h <;> try (exfalso; omega)) | (simp (disch := first | omega | (simp only [vlen]; first | done | omega)) only [vct, hste, ↓vAq, vBq, ↓reduceIte, Nat.reduceBEq, Nat.reduceEqDiff, Nat.reduceLT, Nat.reduceLeDiff, Nat.reduceAdd, Nat.reduceMul, Nat.reduceSub, reduceCtorEq, Int.reduceToNat]) | (refine Br.mk ?_ ?_ <;> intro h) | (refine BrN.mk (fun h => ?_) ?_) | (refine AltVC.mk ?_ ?_)
  exact fin_mk ⟨T st 0 w.length, rfl, by rw [← hste]; exact hb⟩
theorem pl_rule {g : Grammar} (hv : Valid g) {nul : Int → Bool} {P : Grammar} (hP : ChG (fuG (shG g) nul) P) (hn : P.n = (shG g).n) {r : Rule} (hr : r ∈ P.rules) : (0 ≤ r.left ∧ r.left < P.n) ∧ r.right.length ≤ 2 ∧ (∀ x, x ∈ r.right → 0 ≤ x ∧ x < g.k + P.n) ∧ plainR P r = true := by
  have hl := hP.rl r hr
  obtain ⟨b, _, h2, h3⟩ := (hP.iff r.left r.right hl.1 hl.2).1 hr
  have hk : P.k = g.k := hP.k
  have ho := fuG_ok (nul := nul) (sh_ok hv.pg) _ h2
  obtain ⟨r0, hr0, hr1⟩ := List.mem_flatMap.1 h2
  have h0 := sh_ok hv.pg r0 hr0
  have hne : r.right ≠ [] := (ful_of h0.2.1 h0.2.2.2 hr1).2.1
  obtain ⟨_, o3, o4, o5⟩ := ho
  have hx : ∀ x, x ∈ r.right → 0 ≤ x ∧ x < g.k + P.n := by rw [hn]; exact o4
  refine ⟨hl, o3, hx, ?_⟩
  obtain ⟨L, R⟩ := r
  unfold plainR
  refine decide_eq_true ?_
  match R, hne, o3, o5, hx, h3 with
  | [x], _, _, _, hx, h3 =>
    left
    have h1 := hx x (by simp)
    unfold isSg at h3
    have h3 : ¬ g.k ≤ x := by
      intro h
      have h4 : (shG g).k = g.k := rfl
      have h5 : (fuG (shG g) nul).k = g.k := rfl
      rw [h5] at h3
      simp [h] at h3
    exact ⟨rfl, h1.1, by show x < P.k; omega⟩
  | [x, y], _, _, o5, _, _ =>
    right
    have h1 := o5 rfl x (by simp)
    have h2 := o5 rfl y (by simp)
    exact ⟨rfl, by show P.k ≤ x; rw [hk]; exact h1, by show P.k ≤ y; rw [hk]; exact h2⟩
theorem pl_FG {g : Grammar} (hv : Valid g) {S : Nat} (hS : DvS (shG g) true S) : FG (shG g) (nuB S) := by
  have hk := hv.k
  have e : (shG g).k = g.k := rfl
  refine ⟨by omega, sh_ok hv.pg, fun a h0 h1 w i => ?_⟩
  have := hS.nul (by omega) a.toNat w i
  rwa [show ((a.toNat : Nat) : Int) = a by omega] at this
theorem CallVC.mklP {P : Program} {f : FuncId} {views views' raws : List D} {s : S} {d : Option Nat} {K : S → Prop} {R : D → Prop} (hl : Les views views') (h : Dm.Spec P f views' R) (hk : ∀ r, R r → K (s.put d r)) : CallV P f views false raws s d K :=
  fun hv ho => .pure raws s views' R (by rw [← hv]; exact hl) h fun r hr => ⟨by rw [← ho]; simp, hk r hr⟩
set_option maxRecDepth 10000 in
set_option maxHeartbeats 4000000 in
theorem plainTells_spec (g : Grammar) (hg : g.ok) (w : List Int) (hw : okL ok64 w) : Dm.Spec Try.prog 8 [.ag (graD g), .sl 1 (i64s w)] (· = .v (.bool true)) := by
  refine spec_of_vc mixed Try.func8 c8 (by rw [show Try.f8.ntmps = _ from Try.ntmps8]; simp) ?_
  unfold m8 r8
  have hwl := maxLen_le hw.1
  have hp := plain_spec g hg
  have hq := refGCheck_spec g hg
  repeat' first | ((first | refine Br.dec ?_ ?_ | refine Br.eqi ?_ ?_) <;> intro h <;> try (exfalso; omega)) | (simp (disch := first | omega | (simp only [vlen]; first | done | omega)) only [vsh, ↓vAq, vBq, ↓reduceIte, Nat.reduceBEq, Nat.reduceEqDiff, Nat.reduceLT, Nat.reduceLeDiff, Nat.reduceAdd, Nat.reduceMul, Nat.reduceSub, reduceCtorEq, Int.reduceToNat]) | (refine Br.mk ?_ ?_ <;> intro h) | (refine BrN.mk (fun h => ?_) ?_) | (refine AltVC.mk ?_ ?_)
  refine CallVC.mk hp ?_
  rintro _ (⟨hc, rfl⟩ | ⟨hc, S, L, hS, hP, hL, rfl⟩)
  · repeat' first | ((first | refine Br.dec ?_ ?_ | refine Br.eqi ?_ ?_) <;> intro h <;> try (exfalso; omega)) | (simp (disch := first | omega | (simp only [vlen]; first | done | omega)) only [vsh, ↓vAq, vBq, ↓reduceIte, Nat.reduceBEq, Nat.reduceEqDiff, Nat.reduceLT, Nat.reduceLeDiff, Nat.reduceAdd, Nat.reduceMul, Nat.reduceSub, reduceCtorEq, Int.reduceToNat]) | (refine Br.mk ?_ ?_ <;> intro h) | (refine BrN.mk (fun h => ?_) ?_) | (refine AltVC.mk ?_ ?_)
    refine CallVC.eq hq ?_
    repeat' first | ((first | refine Br.dec ?_ ?_ | refine Br.eqi ?_ ?_) <;> intro h <;> try (exfalso; omega)) | (simp (disch := first | omega | (simp only [vlen]; first | done | omega)) only [vsh, ↓vAq, vBq, ↓reduceIte, Nat.reduceBEq, Nat.reduceEqDiff, Nat.reduceLT, Nat.reduceLeDiff, Nat.reduceAdd, Nat.reduceMul, Nat.reduceSub, reduceCtorEq, Int.reduceToNat]) | (refine Br.mk ?_ ?_ <;> intro h) | (refine BrN.mk (fun h => ?_) ?_) | (refine AltVC.mk ?_ ?_)
    all_goals exact fin_mk (vbEq (by simp))
  have hv := valid_of hc
  rw [hc] at hq
  have hk := hv.k
  have hsn := shG_n hv
  obtain ⟨P, hPe⟩ : ∃ P : Grammar, (⟨g.k, (shG g).n, 0, L⟩ : Grammar) = P := ⟨_, rfl⟩
  have pk : P.k = g.k := by rw [← hPe]
  have pn : P.n = (shG g).n := by rw [← hPe]
  have ps : P.start = 0 := by rw [← hPe]
  have pl : P.rules.length ≤ 1000000 := by rw [← hPe]; exact hL
  rw [hPe] at hP ⊢
  have hFG := pl_FG hv hS
  have hru := fun r hr => @pl_rule g hv (nuB S) P hP pn r hr
  have hPl : isPlain P = true := List.all_eq_true.2 fun r hr => (hru r hr).2.2.2
  have hrp := refPlain_spec P (by omega) fun r hr => by have := (hru r hr).2.1; omega
  rw [hPl] at hrp
  have hva : VaG P := ⟨by rw [pk]; exact hk, by rw [pn]; omega, pl, fun r hr => (hru r hr).1, fun r hr => by have := (hru r hr).2.1; omega, fun r hr => by rw [pk]; exact (hru r hr).2.2.1⟩
  repeat' first | ((first | refine Br.dec ?_ ?_ | refine Br.eqi ?_ ?_) <;> intro h <;> try (exfalso; omega)) | (simp (disch := first | omega | (simp only [vlen]; first | done | omega)) only [vsh, graD_eq, pk, ps, ↓vAq, vBq, ↓reduceIte, Nat.reduceBEq, Nat.reduceEqDiff, Nat.reduceLT, Nat.reduceLeDiff, Nat.reduceAdd, Nat.reduceMul, Nat.reduceSub, reduceCtorEq, Int.reduceToNat]) | (refine Br.mk ?_ ?_ <;> intro h) | (refine BrN.mk (fun h => ?_) ?_) | (refine AltVC.mk ?_ ?_)
  refine CallVC.eq hq ?_
  repeat' first | ((first | refine Br.dec ?_ ?_ | refine Br.eqi ?_ ?_) <;> intro h <;> try (exfalso; omega)) | (simp (disch := first | omega | (simp only [vlen]; first | done | omega)) only [vsh, pk, ps, ↓vAq, vBq, ↓reduceIte, Nat.reduceBEq, Nat.reduceEqDiff, Nat.reduceLT, Nat.reduceLeDiff, Nat.reduceAdd, Nat.reduceMul, Nat.reduceSub, reduceCtorEq, Int.reduceToNat]) | (refine Br.mk ?_ ?_ <;> intro h) | (refine BrN.mk (fun h => ?_) ?_) | (refine AltVC.mk ?_ ?_)
  rw [graD_eq, pk, ps] at hrp
  refine CallVC.eq hrp ?_
  repeat' first | ((first | refine Br.dec ?_ ?_ | refine Br.eqi ?_ ?_) <;> intro h <;> try (exfalso; omega)) | (simp (disch := first | omega | (simp only [vlen]; first | done | omega)) only [vsh, pk, ps, ↓vAq, vBq, ↓reduceIte, Nat.reduceBEq, Nat.reduceEqDiff, Nat.reduceLT, Nat.reduceLeDiff, Nat.reduceAdd, Nat.reduceMul, Nat.reduceSub, reduceCtorEq, Int.reduceToNat]) | (refine Br.mk ?_ ?_ <;> intro h) | (refine BrN.mk (fun h => ?_) ?_) | (refine AltVC.mk ?_ ?_)
  refine LoopVC.mk (X := Nat) (fun q => [(65, iv .i64 q)]) (fun q => [(0, ⟨4, [[iv .i64 g.k, iv .i64 g.n, iv .i64 g.start, .sl 2 (tbl rulD g.rules)]], true, false, .fix⟩), (1, ⟨4, [[iv .i64 g.k, iv .i64 P.n, iv .i64 0, .sl 2 (tbl rulD P.rules)]], true, false, .fix⟩)]) (fun q => P.rules.length - q) (fun q => q ≤ P.rules.length) 0 (Nat.zero_le _) ?_ ?_
  · (simp (disch := first | omega | (simp only [vlen]; first | done | omega)) only [Fits_u, Fits_m, Fits_nil, List.length_append, vsh, pk, ps, ↓vAq, vBq, ↓reduceIte, Nat.reduceBEq, Nat.reduceEqDiff, Nat.reduceLT, Nat.reduceLeDiff, Nat.reduceAdd, Nat.reduceMul, Nat.reduceSub, reduceCtorEq, Int.reduceToNat] <;> (repeat' first | rfl | apply And.intro))
    all_goals first | rfl | trace_state
  · intro q hq
    by_cases hql : q < P.rules.length
    · have hmr := getD_mem' (l := P.rules) (i := q) hql
      obtain ⟨r1, r2, r3, r4⟩ := hru _ hmr
      have hsi := signs_spec P (by omega) (by omega) (P.rules.getD q default).right (by omega)
      have hsg : isSigns P (P.rules.getD q default).right = true := List.all_eq_true.2 fun x hx => decide_eq_true (by have := r3 x hx; rw [pk]; exact this)
      rw [hsg, graD_eq, pk, ps] at hsi
      repeat' first | ((first | refine Br.dec ?_ ?_ | refine Br.eqi ?_ ?_) <;> intro h <;> try (exfalso; omega)) | (simp (disch := first | omega | (simp only [vlen]; first | done | omega)) only [vsh, pk, ps, ↓vAq, vBq, ↓reduceIte, Nat.reduceBEq, Nat.reduceEqDiff, Nat.reduceLT, Nat.reduceLeDiff, Nat.reduceAdd, Nat.reduceMul, Nat.reduceSub, reduceCtorEq, Int.reduceToNat]) | (refine Br.mk ?_ ?_ <;> intro h) | (refine BrN.mk (fun h => ?_) ?_) | (refine AltVC.mk ?_ ?_)
      refine CallVC.eq hsi ?_
      repeat' first | ((first | refine Br.dec ?_ ?_ | refine Br.eqi ?_ ?_) <;> intro h <;> try (exfalso; omega)) | (simp (disch := first | omega | (simp only [vlen]; first | done | omega)) only [vsh, pk, ps, ↓vAq, vBq, ↓reduceIte, Nat.reduceBEq, Nat.reduceEqDiff, Nat.reduceLT, Nat.reduceLeDiff, Nat.reduceAdd, Nat.reduceMul, Nat.reduceSub, reduceCtorEq, Int.reduceToNat]) | (refine Br.mk ?_ ?_ <;> intro h) | (refine BrN.mk (fun h => ?_) ?_) | (refine AltVC.mk ?_ ?_)
      refine loopK.mk (q + 1) (by simp (disch := first | omega | (simp only [vlen]; first | done | omega)) only [vsh, ↓vAq, vBq, ↓reduceIte, Nat.reduceBEq, Nat.reduceEqDiff, Nat.reduceLT, Nat.reduceLeDiff, Nat.reduceAdd, Nat.reduceMul, Nat.reduceSub, reduceCtorEq, Int.reduceToNat]) (by show q + 1 ≤ _; omega) (by show P.rules.length - (q + 1) < P.rules.length - q; omega) ?_
      (simp (disch := first | omega | (simp only [vlen]; first | done | omega)) only [Fits_u, Fits_m, Fits_nil, List.length_append, vsh, pk, ps, ↓vAq, vBq, ↓reduceIte, Nat.reduceBEq, Nat.reduceEqDiff, Nat.reduceLT, Nat.reduceLeDiff, Nat.reduceAdd, Nat.reduceMul, Nat.reduceSub, reduceCtorEq, Int.reduceToNat] <;> (repeat' first | rfl | apply And.intro))
      all_goals first | rfl | trace_state
    · by_cases hw0 : w.length = 0
      · have hwe : w = [] := List.eq_nil_of_length_eq_zero hw0
        subst hwe
        have hst : 0 ≤ P.start ∧ P.start < P.n := by rw [ps, pn]; omega
        have htk := takesG_spec P [] ⟨hva, by simp⟩ hst
        rw [graD_eq, pk, ps] at htk
        repeat' first | ((first | refine Br.dec ?_ ?_ | refine Br.eqi ?_ ?_) <;> intro h <;> try (exfalso; omega)) | (simp (disch := first | omega | (simp only [vlen]; first | done | omega)) only [vsh, pk, ps, ↓vAq, vBq, ↓reduceIte, Nat.reduceBEq, Nat.reduceEqDiff, Nat.reduceLT, Nat.reduceLeDiff, Nat.reduceAdd, Nat.reduceMul, Nat.reduceSub, reduceCtorEq, Int.reduceToNat]) | (refine Br.mk ?_ ?_ <;> intro h) | (refine BrN.mk (fun h => ?_) ?_) | (refine AltVC.mk ?_ ?_)
        refine CallVC.mklP (views' := [.ag [iv .i64 g.k, iv .i64 P.n, iv .i64 0, .sl 2 (tbl rulD P.rules)], .sl 1 (i64s [])]) (.cons (Le_refl _) (.cons (Le_nl 1) .nil)) htk ?_
        rintro _ ⟨b, rfl, hb⟩
        have hb0 : b = false := by rw [← Bool.not_eq_true]; exact fun h => plain_nil hFG hP (hb.1 h)
        subst hb0
        repeat' first | ((first | refine Br.dec ?_ ?_ | refine Br.eqi ?_ ?_) <;> intro h <;> try (exfalso; omega)) | (simp (disch := first | omega | (simp only [vlen]; first | done | omega)) only [vsh, pk, ps, ↓vAq, vBq, ↓reduceIte, Nat.reduceBEq, Nat.reduceEqDiff, Nat.reduceLT, Nat.reduceLeDiff, Nat.reduceAdd, Nat.reduceMul, Nat.reduceSub, reduceCtorEq, Int.reduceToNat]) | (refine Br.mk ?_ ?_ <;> intro h) | (refine BrN.mk (fun h => ?_) ?_) | (refine AltVC.mk ?_ ?_)
        exact fin_mk rfl
      · by_cases hwc : wcode g.k w = 0
        · have hwo := wcode_ok hwc
          have hrw := refWord_spec g.k ⟨by omega, hk.2⟩ w hwl
          rw [hwc] at hrw
          have hst : 0 ≤ P.start ∧ P.start < P.n := by rw [ps, pn]; omega
          have ht1 := takesG_spec P w ⟨hva, by omega⟩ hst
          have ht2 := takesG_spec g w ⟨hv.gen, by omega⟩ hv.start
          have hiff := @plain_iff g P (nuB S) hv.pg hFG hP w (fun i hi => (hwo.2 _ (getD_mem' hi)).1) 0 w.length (by omega)
          rw [pk, ps] at ht1
          rw [graD_eq, pk, ps] at ht1
          rw [graD_eq] at ht2
          have hfin : ∀ b c : Bool, (b = true ↔ Der P w [g.k + 0] 0 w.length) → (c = true ↔ Der g w [g.k + g.start] 0 w.length) → b = c := fun b c h1 h2 => by
            rw [Bool.eq_iff_iff, h1, h2]; exact hiff
          repeat' first | ((first | refine Br.dec ?_ ?_ | refine Br.eqi ?_ ?_) <;> intro h <;> try (exfalso; omega)) | (simp (disch := first | omega | (simp only [vlen]; first | done | omega)) only [vsh, pk, ps, ↓vAq, vBq, ↓reduceIte, Nat.reduceBEq, Nat.reduceEqDiff, Nat.reduceLT, Nat.reduceLeDiff, Nat.reduceAdd, Nat.reduceMul, Nat.reduceSub, reduceCtorEq, Int.reduceToNat]) | (refine Br.mk ?_ ?_ <;> intro h) | (refine BrN.mk (fun h => ?_) ?_) | (refine AltVC.mk ?_ ?_)
          refine CallP.eq hrw (by simp) ?_
          repeat' first | ((first | refine Br.dec ?_ ?_ | refine Br.eqi ?_ ?_) <;> intro h <;> try (exfalso; omega)) | (simp (disch := first | omega | (simp only [vlen]; first | done | omega)) only [vsh, pk, ps, ↓vAq, vBq, ↓reduceIte, Nat.reduceBEq, Nat.reduceEqDiff, Nat.reduceLT, Nat.reduceLeDiff, Nat.reduceAdd, Nat.reduceMul, Nat.reduceSub, reduceCtorEq, Int.reduceToNat]) | (refine Br.mk ?_ ?_ <;> intro h) | (refine BrN.mk (fun h => ?_) ?_) | (refine AltVC.mk ?_ ?_)
          refine CallP.mk ht1 ?_
          rintro _ ⟨b, rfl, hb⟩
          refine ⟨by simp, ?_⟩
          repeat' first | ((first | refine Br.dec ?_ ?_ | refine Br.eqi ?_ ?_) <;> intro h <;> try (exfalso; omega)) | (simp (disch := first | omega | (simp only [vlen]; first | done | omega)) only [vsh, pk, ps, ↓vAq, vBq, ↓reduceIte, Nat.reduceBEq, Nat.reduceEqDiff, Nat.reduceLT, Nat.reduceLeDiff, Nat.reduceAdd, Nat.reduceMul, Nat.reduceSub, reduceCtorEq, Int.reduceToNat]) | (refine Br.mk ?_ ?_ <;> intro h) | (refine BrN.mk (fun h => ?_) ?_) | (refine AltVC.mk ?_ ?_)
          refine CallP.mk ht2 ?_
          rintro _ ⟨c, rfl, hcb⟩
          refine ⟨by simp, ?_⟩
          have hbc := hfin b c hb hcb
          subst hbc
          repeat' first | ((first | refine Br.dec ?_ ?_ | refine Br.eqi ?_ ?_) <;> intro h <;> try (exfalso; omega)) | (simp (disch := first | omega | (simp only [vlen]; first | done | omega)) only [vsh, pk, ps, ↓vAq, vBq, ↓reduceIte, Nat.reduceBEq, Nat.reduceEqDiff, Nat.reduceLT, Nat.reduceLeDiff, Nat.reduceAdd, Nat.reduceMul, Nat.reduceSub, reduceCtorEq, Int.reduceToNat]) | (refine Br.mk ?_ ?_ <;> intro h) | (refine BrN.mk (fun h => ?_) ?_) | (refine AltVC.mk ?_ ?_)
          exact fin_mk (vbEq (by simp))
        · repeat' first | ((first | refine Br.dec ?_ ?_ | refine Br.eqi ?_ ?_) <;> intro h <;> try (exfalso; omega)) | (simp (disch := first | omega | (simp only [vlen]; first | done | omega)) only [vsh, pk, ps, ↓vAq, vBq, ↓reduceIte, Nat.reduceBEq, Nat.reduceEqDiff, Nat.reduceLT, Nat.reduceLeDiff, Nat.reduceAdd, Nat.reduceMul, Nat.reduceSub, reduceCtorEq, Int.reduceToNat]) | (refine Br.mk ?_ ?_ <;> intro h) | (refine BrN.mk (fun h => ?_) ?_) | (refine AltVC.mk ?_ ?_)
          refine CallP.eq (refWord_spec g.k ⟨by omega, hk.2⟩ w hwl) (by simp) ?_
          repeat' first | ((first | refine Br.dec ?_ ?_ | refine Br.eqi ?_ ?_) <;> intro h <;> try (exfalso; omega)) | (simp (disch := first | omega | (simp only [vlen]; first | done | omega)) only [vsh, pk, ps, ↓vAq, vBq, ↓reduceIte, Nat.reduceBEq, Nat.reduceEqDiff, Nat.reduceLT, Nat.reduceLeDiff, Nat.reduceAdd, Nat.reduceMul, Nat.reduceSub, reduceCtorEq, Int.reduceToNat]) | (refine Br.mk ?_ ?_ <;> intro h) | (refine BrN.mk (fun h => ?_) ?_) | (refine AltVC.mk ?_ ?_)
          exact fin_mk (vbEq (by simp [hwc]))
end Go.Proofs.Ytplkkacfjepgpaa
