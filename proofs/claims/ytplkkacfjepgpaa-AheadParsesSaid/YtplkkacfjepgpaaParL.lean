/-
  The law AheadParses.
-/
import Derived.Test.YtplkkacfjepgpaaParse
import Derived.Test.YtplkkacfjepgpaaParF
set_option linter.unusedVariables false
set_option linter.unusedSimpArgs false
set_option linter.unnecessarySimpa false
namespace Go.Proofs.Ytplkkacfjepgpaa
open Go.Dm
set_option linter.defProp false
theorem sps_out {g : Grammar} {N : Nat} {w : List Int} {m : Nat} {a b : Cf} (h : Sps g N w m a b) : b.out.length ≤ a.out.length + m := by
  induction h with
  | refl => omega
  | head n a b c h t ih =>
    cases h with
    | eat x st i out hx he => simp only at ih ⊢; omega
    | exp x st i out q hx hq => simp only [List.length_append, List.length_singleton] at ih ⊢; omega
theorem vi_start {g : Grammar} (hv : Valid g) {N : Nat} {w : List Int} (h : Der g w [g.k + g.start] 0 w.length) : Vi g N w ⟨[g.k + g.start], 0, []⟩ := by
  have hk := hv.k
  have hn := hv.n
  have hst := hv.start
  refine ⟨h, fun p hp hx => ?_, fun y hy => ?_⟩
  · have hp0 : p = 0 := by simp only [List.length_singleton] at hp; omega
    subst hp0
    have e : ([g.k + g.start] : List Int).getD 0 0 - g.k = g.start := by show g.k + g.start - g.k = g.start; omega
    rw [e]
    refine ⟨fun x hf => ?_, fun _ => .start⟩
    obtain ⟨y, hy, _⟩ := hf
    cases hy
  · simp only [List.mem_singleton] at hy
    subst hy
    refine ⟨by omega, fun _ => ?_⟩
    rw [show g.k + g.start - g.k = g.start by omega]
    exact .start
theorem parse_end {g : Grammar} (hv : Valid g) {N : Nat} (hNe : N = nameSet g true) (hcl : Clr g N g.rules.length) {w : List Int} {m0 : Nat} {cend : Cf} (hs : Sps g N w m0 ⟨[g.k + g.start], 0, []⟩ cend) (hk : Stk g N w cend) :
    (Der g w [g.k + g.start] 0 w.length → cend.st = [] ∧ cend.at_ = w.length) ∧ (cend.st = [] ∧ cend.at_ = w.length → Der g w [g.k + g.start] 0 w.length ∧ Pr g [g.k + g.start] cend.out w []) := by
  have hpa : Pa g w cend := sps_inv (Q := Pa g w) (fun a b h k => pa_step hv h k) hs ⟨Nat.zero_le _, fun s v r h => by simpa using h⟩
  refine ⟨fun hd => ?_, fun ⟨h1, h2⟩ => ?_⟩
  · have hvi := sps_inv (Q := fun c => c.at_ ≤ w.length ∧ Vi g N w c) (fun a b h k => ⟨?_, vi_step hv hNe hcl h k.1 k.2⟩) hs ⟨Nat.zero_le _, vi_start hv hd⟩
    · exact vi_end hv hNe hcl hvi.1 hvi.2 hk
    · have hi := k.1
      cases h with
      | eat x st i out hx he =>
        show i + 1 ≤ w.length
        simp only at hi
        unfold symAt at he
        split at he
        · omega
        · omega
      | exp x st i out q hx hq => exact hi
  · have h3 := hpa.2 [] [] [] (by rw [h1]; exact .nil)
    rw [h2, List.append_nil, List.append_nil, List.take_length] at h3
    have h4 := pr_der hv h3 (w := w) (pre := []) (post := []) (by simp)
    exact ⟨by simpa using h4, h3⟩
set_option maxRecDepth 10000 in
set_option maxHeartbeats 4000000 in
theorem aheadParses_spec (g : Grammar) (hg : g.ok) (w : List Int) (hw : okL ok64 w) : Dm.Spec Try.prog 7 [.ag (graD g), .sl 1 (i64s w)] (· = .v (.bool true)) := by
  refine spec_of_vc mixed Try.func7 c7 (by rw [show Try.f7.ntmps = _ from Try.ntmps7]; simp) ?_
  unfold m7 r7
  have hwl := maxLen_le hw.1
  have hq := wordOf_spec g hg w hwl
  have hp := parse_spec g hg w hwl
  by_cases h0 : gwC g w = 0
  · have hc : CV g w := ⟨valid_of (gw_of h0).1, (wcode_ok (gw_of h0).2).1⟩
    have hv := hc.v
    have hw12 := hc.w
    rw [h0] at hq
    repeat' first | ((first | refine Br.dec ?_ ?_ | refine Br.eqi ?_ ?_) <;> intro h <;> try (exfalso; omega)) | (simp (disch := (first | omega | (simp only [vlen]; first | done | omega))) only [vcu, ↓vAq, vBq, ↓reduceIte, Nat.reduceBEq, Nat.reduceEqDiff, Nat.reduceLT, Nat.reduceLeDiff, Nat.reduceAdd, Nat.reduceMul, Nat.reduceSub, reduceCtorEq, Int.reduceToNat]) | (refine Br.mk ?_ ?_ <;> intro h) | (refine BrN.mk (fun h => ?_) ?_) | (refine AltVC.mk ?_ ?_)
    refine CallVC.mk hp ?_
    rintro d ⟨_, h2, h3⟩
    by_cases hcl : Clr g (nameSet g true) g.rules.length
    · obtain ⟨m0, cend, hs, hst, hm0, rfl⟩ := h3 h0 hcl
      obtain ⟨he1, he2⟩ := parse_end hv rfl hcl hs hst
      have hol := sps_out hs
      simp only [List.length_nil] at hol
      by_cases hd : Der g w [g.k + g.start] 0 w.length
      · have hce := he1 hd
        obtain ⟨_, hpr⟩ := he2 hce
        rw [if_pos hce]
        repeat' first | ((first | refine Br.dec ?_ ?_ | refine Br.eqi ?_ ?_) <;> intro h <;> try (exfalso; omega)) | (simp (disch := (first | omega | (simp only [vlen]; first | done | omega))) only [vcu, ↓vAq, vBq, ↓reduceIte, Nat.reduceBEq, Nat.reduceEqDiff, Nat.reduceLT, Nat.reduceLeDiff, Nat.reduceAdd, Nat.reduceMul, Nat.reduceSub, reduceCtorEq, Int.reduceToNat]) | (refine Br.mk ?_ ?_ <;> intro h) | (refine BrN.mk (fun h => ?_) ?_) | (refine AltVC.mk ?_ ?_)
        refine CallVC.eq hq ?_
        repeat' first | ((first | refine Br.dec ?_ ?_ | refine Br.eqi ?_ ?_) <;> intro h <;> try (exfalso; omega)) | (simp (disch := (first | omega | (simp only [vlen]; first | done | omega))) only [vcu, ↓vAq, vBq, ↓reduceIte, Nat.reduceBEq, Nat.reduceEqDiff, Nat.reduceLT, Nat.reduceLeDiff, Nat.reduceAdd, Nat.reduceMul, Nat.reduceSub, reduceCtorEq, Int.reduceToNat]) | (refine Br.mk ?_ ?_ <;> intro h) | (refine BrN.mk (fun h => ?_) ?_) | (refine AltVC.mk ?_ ?_)
        refine CallVC.mk (refClear_spec g hv) ?_
        rintro _ ⟨b, rfl, hb⟩
        have hbt : b = true := hb.mpr hcl
        subst hbt
        repeat' first | ((first | refine Br.dec ?_ ?_ | refine Br.eqi ?_ ?_) <;> intro h <;> try (exfalso; omega)) | (simp (disch := (first | omega | (simp only [vlen]; first | done | omega))) only [vcu, ↓vAq, vBq, ↓reduceIte, Nat.reduceBEq, Nat.reduceEqDiff, Nat.reduceLT, Nat.reduceLeDiff, Nat.reduceAdd, Nat.reduceMul, Nat.reduceSub, reduceCtorEq, Int.reduceToNat]) | (refine Br.mk ?_ ?_ <;> intro h) | (refine BrN.mk (fun h => ?_) ?_) | (refine AltVC.mk ?_ ?_)
        refine CallVC.mk (takesWord_spec g w hc) ?_
        rintro _ ⟨b, rfl, hb2⟩
        have hbt : b = true := hb2.mpr hd
        subst hbt
        repeat' first | ((first | refine Br.dec ?_ ?_ | refine Br.eqi ?_ ?_) <;> intro h <;> try (exfalso; omega)) | (simp (disch := (first | omega | (simp only [vlen]; first | done | omega))) only [vcu, ↓vAq, vBq, ↓reduceIte, Nat.reduceBEq, Nat.reduceEqDiff, Nat.reduceLT, Nat.reduceLeDiff, Nat.reduceAdd, Nat.reduceMul, Nat.reduceSub, reduceCtorEq, Int.reduceToNat]) | (refine Br.mk ?_ ?_ <;> intro h) | (refine BrN.mk (fun h => ?_) ?_) | (refine AltVC.mk ?_ ?_)
        refine CallVC.mk (follows_spec g hv cend.out (by omega)) ?_
        rintro _ (⟨l, rfl, hll, hiff⟩ | ⟨rfl, hno⟩)
        · have hlw := ((hiff w []).mp hpr).done.2.1
          subst hlw
          repeat' first | ((first | refine Br.dec ?_ ?_ | refine Br.eqi ?_ ?_) <;> intro h <;> try (exfalso; omega)) | (simp (disch := (first | omega | (simp only [vlen]; first | done | omega))) only [vcu, ↓vAq, vBq, ↓reduceIte, Nat.reduceBEq, Nat.reduceEqDiff, Nat.reduceLT, Nat.reduceLeDiff, Nat.reduceAdd, Nat.reduceMul, Nat.reduceSub, reduceCtorEq, Int.reduceToNat]) | (refine Br.mk ?_ ?_ <;> intro h) | (refine BrN.mk (fun h => ?_) ?_) | (refine AltVC.mk ?_ ?_)
          refine CallVC.eq (intsI_spec w w (by omega) (by omega)) ?_
          repeat' first | ((first | refine Br.dec ?_ ?_ | refine Br.eqi ?_ ?_) <;> intro h <;> try (exfalso; omega)) | (simp (disch := (first | omega | (simp only [vlen]; first | done | omega))) only [vcu, ↓vAq, vBq, ↓reduceIte, Nat.reduceBEq, Nat.reduceEqDiff, Nat.reduceLT, Nat.reduceLeDiff, Nat.reduceAdd, Nat.reduceMul, Nat.reduceSub, reduceCtorEq, Int.reduceToNat]) | (refine Br.mk ?_ ?_ <;> intro h) | (refine BrN.mk (fun h => ?_) ?_) | (refine AltVC.mk ?_ ?_)
          all_goals exact fin_mk (vbEq (by simp))
        · exact absurd hpr (hno w)
      · rw [if_neg (fun h => hd (he2 h).1)]
        repeat' first | ((first | refine Br.dec ?_ ?_ | refine Br.eqi ?_ ?_) <;> intro h <;> try (exfalso; omega)) | (simp (disch := (first | omega | (simp only [vlen]; first | done | omega))) only [vcu, ↓vAq, vBq, ↓reduceIte, Nat.reduceBEq, Nat.reduceEqDiff, Nat.reduceLT, Nat.reduceLeDiff, Nat.reduceAdd, Nat.reduceMul, Nat.reduceSub, reduceCtorEq, Int.reduceToNat]) | (refine Br.mk ?_ ?_ <;> intro h) | (refine BrN.mk (fun h => ?_) ?_) | (refine AltVC.mk ?_ ?_)
        refine CallVC.eq hq ?_
        repeat' first | ((first | refine Br.dec ?_ ?_ | refine Br.eqi ?_ ?_) <;> intro h <;> try (exfalso; omega)) | (simp (disch := (first | omega | (simp only [vlen]; first | done | omega))) only [vcu, ↓vAq, vBq, ↓reduceIte, Nat.reduceBEq, Nat.reduceEqDiff, Nat.reduceLT, Nat.reduceLeDiff, Nat.reduceAdd, Nat.reduceMul, Nat.reduceSub, reduceCtorEq, Int.reduceToNat]) | (refine Br.mk ?_ ?_ <;> intro h) | (refine BrN.mk (fun h => ?_) ?_) | (refine AltVC.mk ?_ ?_)
        refine CallVC.mk (refClear_spec g hv) ?_
        rintro _ ⟨b, rfl, hb⟩
        have hbt : b = true := hb.mpr hcl
        subst hbt
        repeat' first | ((first | refine Br.dec ?_ ?_ | refine Br.eqi ?_ ?_) <;> intro h <;> try (exfalso; omega)) | (simp (disch := (first | omega | (simp only [vlen]; first | done | omega))) only [vcu, ↓vAq, vBq, ↓reduceIte, Nat.reduceBEq, Nat.reduceEqDiff, Nat.reduceLT, Nat.reduceLeDiff, Nat.reduceAdd, Nat.reduceMul, Nat.reduceSub, reduceCtorEq, Int.reduceToNat]) | (refine Br.mk ?_ ?_ <;> intro h) | (refine BrN.mk (fun h => ?_) ?_) | (refine AltVC.mk ?_ ?_)
        refine CallVC.mk (takesWord_spec g w hc) ?_
        rintro _ ⟨b, rfl, hb2⟩
        have hbt : b = false := by rw [← Bool.not_eq_true]; exact fun h => hd (hb2.mp h)
        subst hbt
        repeat' first | ((first | refine Br.dec ?_ ?_ | refine Br.eqi ?_ ?_) <;> intro h <;> try (exfalso; omega)) | (simp (disch := (first | omega | (simp only [vlen]; first | done | omega))) only [vcu, ↓vAq, vBq, ↓reduceIte, Nat.reduceBEq, Nat.reduceEqDiff, Nat.reduceLT, Nat.reduceLeDiff, Nat.reduceAdd, Nat.reduceMul, Nat.reduceSub, reduceCtorEq, Int.reduceToNat]) | (refine Br.mk ?_ ?_ <;> intro h) | (refine BrN.mk (fun h => ?_) ?_) | (refine AltVC.mk ?_ ?_)
        all_goals exact fin_mk (vbEq (by simp))
    · have h2' := h2 h0 hcl
      subst h2'
      repeat' first | ((first | refine Br.dec ?_ ?_ | refine Br.eqi ?_ ?_) <;> intro h <;> try (exfalso; omega)) | (simp (disch := (first | omega | (simp only [vlen]; first | done | omega))) only [vcu, ↓vAq, vBq, ↓reduceIte, Nat.reduceBEq, Nat.reduceEqDiff, Nat.reduceLT, Nat.reduceLeDiff, Nat.reduceAdd, Nat.reduceMul, Nat.reduceSub, reduceCtorEq, Int.reduceToNat]) | (refine Br.mk ?_ ?_ <;> intro h) | (refine BrN.mk (fun h => ?_) ?_) | (refine AltVC.mk ?_ ?_)
      refine CallVC.eq hq ?_
      repeat' first | ((first | refine Br.dec ?_ ?_ | refine Br.eqi ?_ ?_) <;> intro h <;> try (exfalso; omega)) | (simp (disch := (first | omega | (simp only [vlen]; first | done | omega))) only [vcu, ↓vAq, vBq, ↓reduceIte, Nat.reduceBEq, Nat.reduceEqDiff, Nat.reduceLT, Nat.reduceLeDiff, Nat.reduceAdd, Nat.reduceMul, Nat.reduceSub, reduceCtorEq, Int.reduceToNat]) | (refine Br.mk ?_ ?_ <;> intro h) | (refine BrN.mk (fun h => ?_) ?_) | (refine AltVC.mk ?_ ?_)
      refine CallVC.mk (refClear_spec g hv) ?_
      rintro _ ⟨b, rfl, hb⟩
      have hbt : b = false := by rw [← Bool.not_eq_true]; exact fun h => hcl (hb.mp h)
      subst hbt
      repeat' first | ((first | refine Br.dec ?_ ?_ | refine Br.eqi ?_ ?_) <;> intro h <;> try (exfalso; omega)) | (simp (disch := (first | omega | (simp only [vlen]; first | done | omega))) only [vcu, ↓vAq, vBq, ↓reduceIte, Nat.reduceBEq, Nat.reduceEqDiff, Nat.reduceLT, Nat.reduceLeDiff, Nat.reduceAdd, Nat.reduceMul, Nat.reduceSub, reduceCtorEq, Int.reduceToNat]) | (refine Br.mk ?_ ?_ <;> intro h) | (refine BrN.mk (fun h => ?_) ?_) | (refine AltVC.mk ?_ ?_)
      all_goals exact fin_mk (vbEq (by simp))
  · repeat' first | ((first | refine Br.dec ?_ ?_ | refine Br.eqi ?_ ?_) <;> intro h <;> try (exfalso; omega)) | (simp (disch := (first | omega | (simp only [vlen]; first | done | omega))) only [vcu, ↓vAq, vBq, ↓reduceIte, Nat.reduceBEq, Nat.reduceEqDiff, Nat.reduceLT, Nat.reduceLeDiff, Nat.reduceAdd, Nat.reduceMul, Nat.reduceSub, reduceCtorEq, Int.reduceToNat]) | (refine Br.mk ?_ ?_ <;> intro h) | (refine BrN.mk (fun h => ?_) ?_) | (refine AltVC.mk ?_ ?_)
    refine CallVC.mk hp ?_
    rintro d ⟨h1, _, _⟩
    have h1' := h1 h0
    subst h1'
    repeat' first | ((first | refine Br.dec ?_ ?_ | refine Br.eqi ?_ ?_) <;> intro h <;> try (exfalso; omega)) | (simp (disch := (first | omega | (simp only [vlen]; first | done | omega))) only [vcu, ↓vAq, vBq, ↓reduceIte, Nat.reduceBEq, Nat.reduceEqDiff, Nat.reduceLT, Nat.reduceLeDiff, Nat.reduceAdd, Nat.reduceMul, Nat.reduceSub, reduceCtorEq, Int.reduceToNat]) | (refine Br.mk ?_ ?_ <;> intro h) | (refine BrN.mk (fun h => ?_) ?_) | (refine AltVC.mk ?_ ?_)
    refine CallVC.eq hq ?_
    repeat' first | ((first | refine Br.dec ?_ ?_ | refine Br.eqi ?_ ?_) <;> intro h <;> try (exfalso; omega)) | (simp (disch := (first | omega | (simp only [vlen]; first | done | omega))) only [vcu, ↓vAq, vBq, ↓reduceIte, Nat.reduceBEq, Nat.reduceEqDiff, Nat.reduceLT, Nat.reduceLeDiff, Nat.reduceAdd, Nat.reduceMul, Nat.reduceSub, reduceCtorEq, Int.reduceToNat]) | (refine Br.mk ?_ ?_ <;> intro h) | (refine BrN.mk (fun h => ?_) ?_) | (refine AltVC.mk ?_ ?_)
    all_goals exact fin_mk (vbEq (by simp))
end Go.Proofs.Ytplkkacfjepgpaa
