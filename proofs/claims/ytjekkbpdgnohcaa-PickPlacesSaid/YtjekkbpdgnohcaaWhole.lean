/-
  Proper grammars; table.Whole; coppicerref.TreesCheck and Grow.
-/
import Derived.Test.YtjekkbpdgnohcaaBush
import Derived.Test.YtjekkbpdgnohcaaTChk
namespace Go.Proofs.Ytjekkbpdgnohcaa
open Go.Dm
set_option linter.unusedSimpArgs false
set_option linter.unnecessarySimpa false
set_option linter.unusedVariables false
set_option linter.defProp false
def propB (g : Grammar) (r : Rule) : Bool := decide (¬ (r.right.length = 0 ∨ (r.right.length = 1 ∧ g.k ≤ r.right.getD 0 0)))
def isProper (g : Grammar) : Bool := g.rules.all (propB g)
theorem isProper_iff {g : Grammar} : isProper g = true ↔ Proper g := by
  unfold isProper Proper
  rw [List.all_eq_true]
  refine ⟨fun h r hr => ?_, fun h r hr => ?_⟩
  · have := of_decide_eq_true (h r hr)
    refine ⟨fun e => this (.inl (by rw [e]; rfl)), fun x e => ?_⟩
    rw [e] at this
    have h2 : ¬ (g.k ≤ x) := fun h3 => this (.inr ⟨rfl, h3⟩)
    omega
  · refine decide_eq_true fun h2 => ?_
    have := h r hr
    rcases h2 with h2 | ⟨h2, h3⟩
    · exact this.1 (List.eq_nil_of_length_eq_zero h2)
    · match hl : r.right, h2 with
      | [x], _ =>
        have := this.2 x hl
        rw [hl] at h3
        simp at h3; omega
set_option maxRecDepth 10000 in
set_option maxHeartbeats 4000000 in
theorem prop1_spec (g : Grammar) (r : Rule) (hr : r.right.length ≤ 1000) : Dm.Spec Try.prog 60 [.ag (rulD r), .ip (graD g) 0] (· = .v (.bool (!propB g r))) := by
  refine spec_of_vc mixed Try.func60 c60 (by rw [show Try.f60.ntmps = _ from Try.ntmps60]; simp) ?_
  unfold m60 r60
  repeat' first | ((first | refine Br.dec ?_ ?_ | refine Br.eqi ?_ ?_) <;> intro h <;> try (exfalso; omega)) | (simp (disch := (first | omega | (simp only [vlen]; first | done | omega))) only [↓vAq, vBq, ↓reduceIte, Nat.reduceBEq, Nat.reduceEqDiff, Nat.reduceLT, Nat.reduceLeDiff, Nat.reduceAdd, Nat.reduceMul, Nat.reduceSub, reduceCtorEq, Int.reduceToNat]) | (refine Br.mk ?_ ?_ <;> intro h) | (refine BrN.mk (fun h => ?_) ?_) | (refine AltVC.mk ?_ ?_)
  all_goals (refine fin_mk (vbEq ?_); unfold propB; rw [← decide_not]; first | exact (decide_eq_true (by omega)).symm | exact (decide_eq_false (by omega)).symm | exact dec_iff (by omega))
set_option maxRecDepth 10000 in
set_option maxHeartbeats 4000000 in
theorem proper_spec (g : Grammar) (hr : g.rules.length ≤ 9223372036854775807) (hl : ∀ r, r ∈ g.rules → r.right.length ≤ 1000) : Dm.Spec Try.prog 43 [.ag (graD g)] (· = .v (.bool (isProper g))) := by
  refine spec_of_vc mixed Try.func43 c43 (by rw [show Try.f43.ntmps = _ from Try.ntmps43]; simp) ?_
  unfold m43 r43
  repeat' first | ((first | refine Br.dec ?_ ?_ | refine Br.eqi ?_ ?_) <;> intro h <;> try (exfalso; omega)) | (simp (disch := (first | omega | (simp only [vlen]; first | done | omega))) only [↓vAq, vBq, ↓reduceIte, Nat.reduceBEq, Nat.reduceEqDiff, Nat.reduceLT, Nat.reduceLeDiff, Nat.reduceAdd, Nat.reduceMul, Nat.reduceSub, reduceCtorEq, Int.reduceToNat]) | (refine Br.mk ?_ ?_ <;> intro h) | (refine BrN.mk (fun h => ?_) ?_) | (refine AltVC.mk ?_ ?_)
  refine CallVC.eqo (conF_rule g.rules (fun r => !propB g r) _ [.ip (graD g) 0] hr (by simp (disch := (first | omega | (simp only [vlen]; first | done | omega))) only [↓vAq, vBq, ↓reduceIte, Nat.reduceBEq, Nat.reduceEqDiff, Nat.reduceLT, Nat.reduceLeDiff, Nat.reduceAdd, Nat.reduceMul, Nat.reduceSub, reduceCtorEq, Int.reduceToNat]) fun r h => prop1_spec g r (hl r h)) (by simp (disch := (first | omega | (simp only [vlen]; first | done | omega))) only [↓vAq, vBq, ↓reduceIte, Nat.reduceBEq, Nat.reduceEqDiff, Nat.reduceLT, Nat.reduceLeDiff, Nat.reduceAdd, Nat.reduceMul, Nat.reduceSub, reduceCtorEq, Int.reduceToNat]) ?_
  repeat' first | ((first | refine Br.dec ?_ ?_ | refine Br.eqi ?_ ?_) <;> intro h <;> try (exfalso; omega)) | (simp (disch := (first | omega | (simp only [vlen]; first | done | omega))) only [↓vAq, vBq, ↓reduceIte, Nat.reduceBEq, Nat.reduceEqDiff, Nat.reduceLT, Nat.reduceLeDiff, Nat.reduceAdd, Nat.reduceMul, Nat.reduceSub, reduceCtorEq, Int.reduceToNat]) | (refine Br.mk ?_ ?_ <;> intro h) | (refine BrN.mk (fun h => ?_) ?_) | (refine AltVC.mk ?_ ?_)
  exact fin_mk (vbEq all_not')
set_option maxRecDepth 10000 in
set_option maxHeartbeats 4000000 in
theorem refProper_spec (g : Grammar) (hr : g.rules.length ≤ 9223372036854775807) (hl : ∀ r, r ∈ g.rules → r.right.length ≤ 1000) : Dm.Spec Try.prog 50 [.ag (graD g)] (· = .v (.bool (isProper g))) := by
  refine spec_of_vc mixed Try.func50 c50 (by rw [show Try.f50.ntmps = _ from Try.ntmps50]; simp) ?_
  unfold m50 r50
  repeat' first | ((first | refine Br.dec ?_ ?_ | refine Br.eqi ?_ ?_) <;> intro h <;> try (exfalso; omega)) | (simp (disch := (first | omega | (simp only [vlen]; first | done | omega))) only [↓vAq, vBq, ↓reduceIte, Nat.reduceBEq, Nat.reduceEqDiff, Nat.reduceLT, Nat.reduceLeDiff, Nat.reduceAdd, Nat.reduceMul, Nat.reduceSub, reduceCtorEq, Int.reduceToNat]) | (refine Br.mk ?_ ?_ <;> intro h) | (refine BrN.mk (fun h => ?_) ?_) | (refine AltVC.mk ?_ ?_)
  refine LoopVC.mk (X := Nat) (fun i => [(8, iv .i64 i)]) (fun _ => [(0, ⟨4, [[iv .i64 g.k, iv .i64 g.n, iv .i64 g.start, .sl 2 (tbl rulD g.rules)]], true, false, .fix⟩)]) (fun i => g.rules.length - i) (fun i => i ≤ g.rules.length ∧ ∀ j, j < i → propB g (g.rules.getD j default) = true) 0 ⟨by omega, by omega⟩ ?_ ?_
  · (simp (disch := (first | omega | (simp only [vlen]; first | done | omega))) only [Fits_u, Fits_m, Fits_nil, List.length_append, ↓vAq, vBq, ↓reduceIte, Nat.reduceBEq, Nat.reduceEqDiff, Nat.reduceLT, Nat.reduceLeDiff, Nat.reduceAdd, Nat.reduceMul, Nat.reduceSub, reduceCtorEq, Int.reduceToNat] <;> (repeat' first | rfl | apply And.intro))
  · rintro i ⟨h1, h2⟩
    have hb : i < g.rules.length → (g.rules.getD i default).right.length ≤ 1000 := fun h => hl _ (getD_mem' h)
    repeat' first | ((first | refine Br.dec ?_ ?_ | refine Br.eqi ?_ ?_) <;> intro h <;> try (exfalso; omega)) | (simp (disch := (first | omega | (simp only [vlen]; first | done | omega))) only [↓vAq, vBq, ↓reduceIte, Nat.reduceBEq, Nat.reduceEqDiff, Nat.reduceLT, Nat.reduceLeDiff, Nat.reduceAdd, Nat.reduceMul, Nat.reduceSub, reduceCtorEq, Int.reduceToNat]) | (refine Br.mk ?_ ?_ <;> intro h) | (refine BrN.mk (fun h => ?_) ?_) | (refine AltVC.mk ?_ ?_)
    all_goals first
      | exact fin_mk (vbEq (all_none (i := i) (by omega) h2).symm)
      | exact fin_mk (vbEq (all_hit (p := propB g) (i := i) (by omega) (by unfold propB; exact decide_eq_false (by omega))).symm)
      | exact loopK.mk (i + 1) (by simp (disch := (first | omega | (simp only [vlen]; first | done | omega))) only [↓vAq, vBq, ↓reduceIte, Nat.reduceBEq, Nat.reduceEqDiff, Nat.reduceLT, Nat.reduceLeDiff, Nat.reduceAdd, Nat.reduceMul, Nat.reduceSub, reduceCtorEq, Int.reduceToNat]) ⟨by omega, succ_all h2 (by unfold propB; exact decide_eq_true (by omega))⟩ (by omega) (by (simp (disch := (first | omega | (simp only [vlen]; first | done | omega))) only [Fits_u, Fits_m, Fits_nil, List.length_append, ↓vAq, vBq, ↓reduceIte, Nat.reduceBEq, Nat.reduceEqDiff, Nat.reduceLT, Nat.reduceLeDiff, Nat.reduceAdd, Nat.reduceMul, Nat.reduceSub, reduceCtorEq, Int.reduceToNat] <;> (repeat' first | rfl | apply And.intro)))
def tcode (g : Grammar) (w : List Int) : Int := if gcode g = 0 then (if wcode g.k w = 0 then (if isProper g = true then 0 else 3) else wcode g.k w) else gcode g
def trN (g : Grammar) (w : List Int) : Nat := trees g w (g.k + g.start) 0 w.length
theorem cc_of {g : Grammar} {w : List Int} (h : tcode g w = 0) : CC g w ∧ gcode g = 0 ∧ wcode g.k w = 0 ∧ isProper g = true := by
  unfold tcode at h
  split at h
  · next h1 =>
    split at h
    · next h2 =>
      split at h
      · next h3 => exact ⟨⟨valid_of h1, isProper_iff.mp h3, (wcode_ok h2).1⟩, h1, h2, h3⟩
      · omega
    · next h2 => exact absurd h h2
  · next h1 => exact absurd h h1
set_option maxRecDepth 10000 in
set_option maxHeartbeats 4000000 in
theorem treesCheck_spec (g : Grammar) (hg : g.ok) (w : List Int) (hw : w.length ≤ 9223372036854775807) : Dm.Spec Try.prog 27 [.ag (graD g), .sl 1 (i64s w)] (· = iv .i64 (tcode g w)) := by
  refine spec_of_vc mixed Try.func27 c27 (by rw [show Try.f27.ntmps = _ from Try.ntmps27]; simp) ?_
  unfold m27 r27
  have hr : g.rules.length ≤ 9223372036854775807 := maxLen_le hg.2.2.2.1
  unfold tcode
  by_cases e : gcode g = 0
  · have hv := valid_of e
    have hk := hv.k
    have hq := refGCheck_spec g hg
    rw [e] at hq
    rw [if_pos e]
    repeat' first | ((first | refine Br.dec ?_ ?_ | refine Br.eqi ?_ ?_) <;> intro h <;> try (exfalso; omega)) | (simp (disch := (first | omega | (simp only [vlen]; first | done | omega))) only [↓vAq, vBq, ↓reduceIte, Nat.reduceBEq, Nat.reduceEqDiff, Nat.reduceLT, Nat.reduceLeDiff, Nat.reduceAdd, Nat.reduceMul, Nat.reduceSub, reduceCtorEq, Int.reduceToNat]) | (refine Br.mk ?_ ?_ <;> intro h) | (refine BrN.mk (fun h => ?_) ?_) | (refine AltVC.mk ?_ ?_)
    refine CallVC.eq hq ?_
    repeat' first | ((first | refine Br.dec ?_ ?_ | refine Br.eqi ?_ ?_) <;> intro h <;> try (exfalso; omega)) | (simp (disch := (first | omega | (simp only [vlen]; first | done | omega))) only [↓vAq, vBq, ↓reduceIte, Nat.reduceBEq, Nat.reduceEqDiff, Nat.reduceLT, Nat.reduceLeDiff, Nat.reduceAdd, Nat.reduceMul, Nat.reduceSub, reduceCtorEq, Int.reduceToNat]) | (refine Br.mk ?_ ?_ <;> intro h) | (refine BrN.mk (fun h => ?_) ?_) | (refine AltVC.mk ?_ ?_)
    refine CallVC.eq (refWord_spec g.k (by omega) w hw) ?_
    repeat' first | ((first | refine Br.dec ?_ ?_ | refine Br.eqi ?_ ?_) <;> intro h <;> try (exfalso; omega)) | (simp (disch := (first | omega | (simp only [vlen]; first | done | omega))) only [↓vAq, vBq, ↓reduceIte, Nat.reduceBEq, Nat.reduceEqDiff, Nat.reduceLT, Nat.reduceLeDiff, Nat.reduceAdd, Nat.reduceMul, Nat.reduceSub, reduceCtorEq, Int.reduceToNat]) | (refine Br.mk ?_ ?_ <;> intro h) | (refine BrN.mk (fun h => ?_) ?_) | (refine AltVC.mk ?_ ?_)
    · have hp := refProper_spec g hr fun r h => by have := hv.long r h; omega
      refine CallVC.eq hp ?_
      rw [if_pos (by assumption)]
      cases hb : isProper g with
      | true =>
        repeat' first | ((first | refine Br.dec ?_ ?_ | refine Br.eqi ?_ ?_) <;> intro h <;> try (exfalso; omega)) | (simp (disch := (first | omega | (simp only [vlen]; first | done | omega))) only [↓vAq, vBq, ↓reduceIte, Nat.reduceBEq, Nat.reduceEqDiff, Nat.reduceLT, Nat.reduceLeDiff, Nat.reduceAdd, Nat.reduceMul, Nat.reduceSub, reduceCtorEq, Int.reduceToNat]) | (refine Br.mk ?_ ?_ <;> intro h) | (refine BrN.mk (fun h => ?_) ?_) | (refine AltVC.mk ?_ ?_)
        exact fin_mk (by rw [h])
      | false =>
        repeat' first | ((first | refine Br.dec ?_ ?_ | refine Br.eqi ?_ ?_) <;> intro h <;> try (exfalso; omega)) | (simp (disch := (first | omega | (simp only [vlen]; first | done | omega))) only [↓vAq, vBq, ↓reduceIte, Nat.reduceBEq, Nat.reduceEqDiff, Nat.reduceLT, Nat.reduceLeDiff, Nat.reduceAdd, Nat.reduceMul, Nat.reduceSub, reduceCtorEq, Int.reduceToNat]) | (refine Br.mk ?_ ?_ <;> intro h) | (refine BrN.mk (fun h => ?_) ?_) | (refine AltVC.mk ?_ ?_)
        exact fin_mk (by rfl)
    · exact fin_mk (by rw [if_neg (by assumption)])
  · rw [if_neg e]
    repeat' first | ((first | refine Br.dec ?_ ?_ | refine Br.eqi ?_ ?_) <;> intro h <;> try (exfalso; omega)) | (simp (disch := (first | omega | (simp only [vlen]; first | done | omega))) only [↓vAq, vBq, ↓reduceIte, Nat.reduceBEq, Nat.reduceEqDiff, Nat.reduceLT, Nat.reduceLeDiff, Nat.reduceAdd, Nat.reduceMul, Nat.reduceSub, reduceCtorEq, Int.reduceToNat]) | (refine Br.mk ?_ ?_ <;> intro h) | (refine BrN.mk (fun h => ?_) ?_) | (refine AltVC.mk ?_ ?_)
    refine CallVC.eq (refGCheck_spec g hg) ?_
    repeat' first | ((first | refine Br.dec ?_ ?_ | refine Br.eqi ?_ ?_) <;> intro h <;> try (exfalso; omega)) | (simp (disch := (first | omega | (simp only [vlen]; first | done | omega))) only [↓vAq, vBq, ↓reduceIte, Nat.reduceBEq, Nat.reduceEqDiff, Nat.reduceLT, Nat.reduceLeDiff, Nat.reduceAdd, Nat.reduceMul, Nat.reduceSub, reduceCtorEq, Int.reduceToNat]) | (refine Br.mk ?_ ?_ <;> intro h) | (refine BrN.mk (fun h => ?_) ?_) | (refine AltVC.mk ?_ ?_)
    exact fin_mk rfl
def nwR (g : Grammar) (w : List Int) (d : D) (o : List (Option Ob)) : Prop := d = .ptr 2 6 0 0 ∧ o = [none, some ⟨5, tbl keD [], true, false, .map [.i64, .i64, .i64, .i64] true false⟩, some ⟨6, [[iv .i64 g.k, iv .i64 g.n, iv .i64 g.start, .sl 2 (tbl rulD g.rules), .sl 1 (i64s w), .mp 1]], false, false, .fix⟩]
set_option maxRecDepth 10000 in
set_option maxHeartbeats 4000000 in
theorem newC_spec (g : Grammar) (w : List Int) : Dm.SpecH Try.prog 44 [.ag (graD g), .sl 1 (i64s w)] [] (nwR g w) := by
  refine specH_of_vc mixed Try.func44 c44 (by rw [show Try.f44.ntmps = _ from Try.ntmps44]; simp) ?_
  unfold m44 r44
  repeat' first | ((first | refine Br.dec ?_ ?_ | refine Br.eqi ?_ ?_) <;> intro h <;> try (exfalso; omega)) | (simp (disch := (first | omega | (simp only [vlen]; first | done | omega))) only [vke, ↓vAq, vBq, ↓reduceIte, Nat.reduceBEq, Nat.reduceEqDiff, Nat.reduceLT, Nat.reduceLeDiff, Nat.reduceAdd, Nat.reduceMul, Nat.reduceSub, reduceCtorEq, Int.reduceToNat]) | (refine Br.mk ?_ ?_ <;> intro h) | (refine BrN.mk (fun h => ?_) ?_) | (refine AltVC.mk ?_ ?_)
  exact finH_mk [none, some ⟨5, tbl keD [], true, false, .map [.i64, .i64, .i64, .i64] true false⟩, some ⟨6, [[iv .i64 g.k, iv .i64 g.n, iv .i64 g.start, .sl 2 (tbl rulD g.rules), .sl 1 (i64s w), .mp 1]], false, false, .fix⟩] (by simp) (by simp (disch := (first | omega | (simp only [vlen]; first | done | omega))) only [vke, ↓vAq, vBq, ↓reduceIte, Nat.reduceBEq, Nat.reduceEqDiff, Nat.reduceLT, Nat.reduceLeDiff, Nat.reduceAdd, Nat.reduceMul, Nat.reduceSub, reduceCtorEq, Int.reduceToNat]) (by simp (disch := (first | omega | (simp only [vlen]; first | done | omega))) only [tbl_nil, vke, ↓vAq, vBq, ↓reduceIte, Nat.reduceBEq, Nat.reduceEqDiff, Nat.reduceLT, Nat.reduceLeDiff, Nat.reduceAdd, Nat.reduceMul, Nat.reduceSub, reduceCtorEq, Int.reduceToNat]) ⟨by simp (disch := (first | omega | (simp only [vlen]; first | done | omega))) only [vke, ↓vAq, vBq, ↓reduceIte, Nat.reduceBEq, Nat.reduceEqDiff, Nat.reduceLT, Nat.reduceLeDiff, Nat.reduceAdd, Nat.reduceMul, Nat.reduceSub, reduceCtorEq, Int.reduceToNat], rfl⟩
set_option maxRecDepth 10000 in
set_option maxHeartbeats 4000000 in
theorem grow_bspec (g : Grammar) (w : List Int) : Dm.SpecH Try.prog 14 [.ag (graD g), .sl 1 (i64s w)] [] (fun d o => d = .ptr 2 6 0 0 ∧ o = [none, some ⟨4, tbl beD [], true, false, .map [.i64, .i64, .i64] true false⟩, some ⟨6, [[iv .i64 g.k, iv .i64 g.n, iv .i64 g.start, .sl 2 (tbl rulD g.rules), .sl 1 (i64s w), .mp 1]], false, false, .fix⟩]) := by
  refine specH_of_vc mixed Try.func14 c14 (by rw [show Try.f14.ntmps = _ from Try.ntmps14]; simp) ?_
  unfold m14 r14
  repeat' first | ((first | refine Br.dec ?_ ?_ | refine Br.eqi ?_ ?_) <;> intro h <;> try (exfalso; omega)) | (simp (disch := (first | omega | (simp only [vlen]; first | done | omega))) only [vbe, ↓vAq, vBq, ↓reduceIte, Nat.reduceBEq, Nat.reduceEqDiff, Nat.reduceLT, Nat.reduceLeDiff, Nat.reduceAdd, Nat.reduceMul, Nat.reduceSub, reduceCtorEq, Int.reduceToNat]) | (refine Br.mk ?_ ?_ <;> intro h) | (refine BrN.mk (fun h => ?_) ?_) | (refine AltVC.mk ?_ ?_)
  exact finH_mk [none, some ⟨4, tbl beD [], true, false, .map [.i64, .i64, .i64] true false⟩, some ⟨6, [[iv .i64 g.k, iv .i64 g.n, iv .i64 g.start, .sl 2 (tbl rulD g.rules), .sl 1 (i64s w), .mp 1]], false, false, .fix⟩] (by simp) (by simp (disch := (first | omega | (simp only [vlen]; first | done | omega))) only [vbe, ↓vAq, vBq, ↓reduceIte, Nat.reduceBEq, Nat.reduceEqDiff, Nat.reduceLT, Nat.reduceLeDiff, Nat.reduceAdd, Nat.reduceMul, Nat.reduceSub, reduceCtorEq, Int.reduceToNat]) (by simp (disch := (first | omega | (simp only [vlen]; first | done | omega))) only [tbl_nil, vbe, ↓vAq, vBq, ↓reduceIte, Nat.reduceBEq, Nat.reduceEqDiff, Nat.reduceLT, Nat.reduceLeDiff, Nat.reduceAdd, Nat.reduceMul, Nat.reduceSub, reduceCtorEq, Int.reduceToNat]) ⟨by simp (disch := (first | omega | (simp only [vlen]; first | done | omega))) only [vbe, ↓vAq, vBq, ↓reduceIte, Nat.reduceBEq, Nat.reduceEqDiff, Nat.reduceLT, Nat.reduceLeDiff, Nat.reduceAdd, Nat.reduceMul, Nat.reduceSub, reduceCtorEq, Int.reduceToNat], rfl⟩
def whR (g : Grammar) (w : List Int) (d : D) (o : List (Option Ob)) : Prop :=
  (tcode g w = 0 ∧ trN g w ≤ 1099511627776 ∧ ∃ L, d = .tu [.ptr 3 6 0 0, iv .i64 (trN g w), iv .i64 0] ∧ o = [none, none, some ⟨5, tbl keD L, true, false, .map [.i64, .i64, .i64, .i64] true false⟩, some ⟨6, [[iv .i64 g.k, iv .i64 g.n, iv .i64 g.start, .sl 2 (tbl rulD g.rules), .sl 1 (i64s w), .mp 2]], false, false, .fix⟩] ∧ MI g w L) ∨
  (∃ c : Int, c ≠ 0 ∧ c = (if tcode g w = 0 then 1 else tcode g w) ∧ (tcode g w = 0 → 1099511627776 < trN g w) ∧ d = .tu [.v (.pointer none), iv .i64 0, iv .i64 c])
set_option maxRecDepth 10000 in
set_option maxHeartbeats 4000000 in
theorem whole_spec (g : Grammar) (hg : g.ok) (w : List Int) (hw : w.length ≤ 9223372036854775807) : Dm.SpecH Try.prog 25 [.ag (graD g), .sl 1 (i64s w)] [] (whR g w) := by
  refine specH_of_vc mixed Try.func25 c25 (by rw [show Try.f25.ntmps = _ from Try.ntmps25]; simp) ?_
  unfold m25 r25
  have hr : g.rules.length ≤ 9223372036854775807 := maxLen_le hg.2.2.2.1
  have htc := tcheck_spec g hg w hw
  by_cases h0 : gwC g w = 0
  · have e : gcode g = 0 := by unfold gwC at h0; split at h0 <;> assumption
    have hv := valid_of e
    have e2 : wcode g.k w = 0 := by unfold gwC at h0; rwa [if_pos e] at h0
    have hk := hv.k
    have hn := hv.n
    have hst := hv.start
    rw [h0] at htc
    have hp := proper_spec g hr fun r h => by have := hv.long r h; omega
    have hwl := (wcode_ok e2).1
    cases hb : isProper g with
    | true =>
      have ht : tcode g w = 0 := by unfold tcode; rw [if_pos e, if_pos e2, if_pos hb]
      have hc := (cc_of ht).1
      rw [hb] at hp
      repeat' first | ((first | refine Br.dec ?_ ?_ | refine Br.eqi ?_ ?_) <;> intro h <;> try (exfalso; omega)) | (simp (disch := (first | omega | (simp only [vlen]; first | done | omega))) only [vke, ↓vAq, vBq, ↓reduceIte, Nat.reduceBEq, Nat.reduceEqDiff, Nat.reduceLT, Nat.reduceLeDiff, Nat.reduceAdd, Nat.reduceMul, Nat.reduceSub, reduceCtorEq, Int.reduceToNat]) | (refine Br.mk ?_ ?_ <;> intro h) | (refine BrN.mk (fun h => ?_) ?_) | (refine AltVC.mk ?_ ?_)
      refine CallVC.eq htc ?_
      repeat' first | ((first | refine Br.dec ?_ ?_ | refine Br.eqi ?_ ?_) <;> intro h <;> try (exfalso; omega)) | (simp (disch := (first | omega | (simp only [vlen]; first | done | omega))) only [vke, ↓vAq, vBq, ↓reduceIte, Nat.reduceBEq, Nat.reduceEqDiff, Nat.reduceLT, Nat.reduceLeDiff, Nat.reduceAdd, Nat.reduceMul, Nat.reduceSub, reduceCtorEq, Int.reduceToNat]) | (refine Br.mk ?_ ?_ <;> intro h) | (refine BrN.mk (fun h => ?_) ?_) | (refine AltVC.mk ?_ ?_)
      refine CallVC.eq hp ?_
      repeat' first | ((first | refine Br.dec ?_ ?_ | refine Br.eqi ?_ ?_) <;> intro h <;> try (exfalso; omega)) | (simp (disch := (first | omega | (simp only [vlen]; first | done | omega))) only [vke, ↓vAq, vBq, ↓reduceIte, Nat.reduceBEq, Nat.reduceEqDiff, Nat.reduceLT, Nat.reduceLeDiff, Nat.reduceAdd, Nat.reduceMul, Nat.reduceSub, reduceCtorEq, Int.reduceToNat]) | (refine Br.mk ?_ ?_ <;> intro h) | (refine BrN.mk (fun h => ?_) ?_) | (refine AltVC.mk ?_ ?_)
      refine CallVC.lendE [] [.ag (graD g), .sl 1 (i64s w)] [] (newC_spec g w) (by simp) (by rfl) (by (simp (disch := (first | omega | (simp only [vlen]; first | done | omega))) only [vle0, ↓vAq, vBq, ↓reduceIte, Nat.reduceBEq, Nat.reduceEqDiff, Nat.reduceLT, Nat.reduceLeDiff, Nat.reduceAdd, Nat.reduceMul, Nat.reduceSub, reduceCtorEq, Int.reduceToNat] <;> (repeat' first | rfl | apply And.intro))) ?_
      rintro _ _ ⟨rfl, rfl⟩
      repeat' first | ((first | refine Br.dec ?_ ?_ | refine Br.eqi ?_ ?_) <;> intro h <;> try (exfalso; omega)) | (simp (disch := (first | omega | (simp only [vlen]; first | done | omega))) only [vke, ↓vAq, vBq, ↓reduceIte, Nat.reduceBEq, Nat.reduceEqDiff, Nat.reduceLT, Nat.reduceLeDiff, Nat.reduceAdd, Nat.reduceMul, Nat.reduceSub, reduceCtorEq, Int.reduceToNat]) | (refine Br.mk ?_ ?_ <;> intro h) | (refine BrN.mk (fun h => ?_) ?_) | (refine AltVC.mk ?_ ?_)
      refine CallVC.lendE [3, 2] [.ptr 0 6 0 0, iv .i64 (g.k + g.start), .ag [iv .i64 (0 : Nat), iv .i64 w.length]] (coO g w []) (sign_spec g w hc (g.k + g.start) 0 w.length (by omega) (by omega) (Nat.zero_le _) (Nat.le_refl _) [] MI.nil) (by simp) (by rfl) (by unfold coO; (simp (disch := (first | omega | (simp only [vlen]; first | done | omega))) only [vle0, ↓vAq, vBq, ↓reduceIte, Nat.reduceBEq, Nat.reduceEqDiff, Nat.reduceLT, Nat.reduceLeDiff, Nat.reduceAdd, Nat.reduceMul, Nat.reduceSub, reduceCtorEq, Int.reduceToNat] <;> (repeat' first | rfl | apply And.intro))) ?_
      rintro _ _ ⟨L2, rfl, rfl, hL2⟩
      unfold coO
      rw [show trees g w (g.k + g.start) 0 w.length = trN g w from rfl]
      repeat' first | ((first | refine Br.dec ?_ ?_ | refine Br.eqi ?_ ?_) <;> intro h <;> try (exfalso; omega)) | (simp (disch := (first | omega | (simp only [vlen]; first | done | omega))) only [vke, ↓vAq, vBq, ↓reduceIte, Nat.reduceBEq, Nat.reduceEqDiff, Nat.reduceLT, Nat.reduceLeDiff, Nat.reduceAdd, Nat.reduceMul, Nat.reduceSub, reduceCtorEq, Int.reduceToNat]) | (refine Br.mk ?_ ?_ <;> intro h) | (refine BrN.mk (fun h => ?_) ?_) | (refine AltVC.mk ?_ ?_)
      · have hbig : 1099511627776 < trN g w := by unfold cp at h; omega
        exact finH_mk [] (by simp) (by simp) (by simp (disch := (first | omega | (simp only [vlen]; first | done | omega))) only [vke, ↓vAq, vBq, ↓reduceIte, Nat.reduceBEq, Nat.reduceEqDiff, Nat.reduceLT, Nat.reduceLeDiff, Nat.reduceAdd, Nat.reduceMul, Nat.reduceSub, reduceCtorEq, Int.reduceToNat]) (.inr ⟨1, by omega, by rw [if_pos ht], fun _ => hbig, by simp (disch := (first | omega | (simp only [vlen]; first | done | omega))) only [vke, ↓vAq, vBq, ↓reduceIte, Nat.reduceBEq, Nat.reduceEqDiff, Nat.reduceLT, Nat.reduceLeDiff, Nat.reduceAdd, Nat.reduceMul, Nat.reduceSub, reduceCtorEq, Int.reduceToNat]⟩)
      · have hsm : trN g w ≤ 1099511627776 := by unfold cp at h; omega
        have hcp : cp (trN g w) = trN g w := by unfold cp; omega
        rw [hcp]
        exact finH_mk [none, none, some ⟨5, tbl keD L2, true, false, .map [.i64, .i64, .i64, .i64] true false⟩, some ⟨6, [[iv .i64 g.k, iv .i64 g.n, iv .i64 g.start, .sl 2 (tbl rulD g.rules), .sl 1 (i64s w), .mp 2]], false, false, .fix⟩] (by simp) (by simp (disch := (first | omega | (simp only [vlen]; first | done | omega))) only [vke, ↓vAq, vBq, ↓reduceIte, Nat.reduceBEq, Nat.reduceEqDiff, Nat.reduceLT, Nat.reduceLeDiff, Nat.reduceAdd, Nat.reduceMul, Nat.reduceSub, reduceCtorEq, Int.reduceToNat]) (by simp (disch := (first | omega | (simp only [vlen]; first | done | omega))) only [vke, ↓vAq, vBq, ↓reduceIte, Nat.reduceBEq, Nat.reduceEqDiff, Nat.reduceLT, Nat.reduceLeDiff, Nat.reduceAdd, Nat.reduceMul, Nat.reduceSub, reduceCtorEq, Int.reduceToNat]) (.inl ⟨ht, hsm, L2, by simp (disch := (first | omega | (simp only [vlen]; first | done | omega))) only [vke, ↓vAq, vBq, ↓reduceIte, Nat.reduceBEq, Nat.reduceEqDiff, Nat.reduceLT, Nat.reduceLeDiff, Nat.reduceAdd, Nat.reduceMul, Nat.reduceSub, reduceCtorEq, Int.reduceToNat], rfl, hL2⟩)
    | false =>
      have ht : tcode g w = 3 := by unfold tcode; rw [if_pos e, if_pos e2, if_neg (by rw [hb]; simp)]
      rw [hb] at hp
      repeat' first | ((first | refine Br.dec ?_ ?_ | refine Br.eqi ?_ ?_) <;> intro h <;> try (exfalso; omega)) | (simp (disch := (first | omega | (simp only [vlen]; first | done | omega))) only [vke, ↓vAq, vBq, ↓reduceIte, Nat.reduceBEq, Nat.reduceEqDiff, Nat.reduceLT, Nat.reduceLeDiff, Nat.reduceAdd, Nat.reduceMul, Nat.reduceSub, reduceCtorEq, Int.reduceToNat]) | (refine Br.mk ?_ ?_ <;> intro h) | (refine BrN.mk (fun h => ?_) ?_) | (refine AltVC.mk ?_ ?_)
      refine CallVC.eq htc ?_
      repeat' first | ((first | refine Br.dec ?_ ?_ | refine Br.eqi ?_ ?_) <;> intro h <;> try (exfalso; omega)) | (simp (disch := (first | omega | (simp only [vlen]; first | done | omega))) only [vke, ↓vAq, vBq, ↓reduceIte, Nat.reduceBEq, Nat.reduceEqDiff, Nat.reduceLT, Nat.reduceLeDiff, Nat.reduceAdd, Nat.reduceMul, Nat.reduceSub, reduceCtorEq, Int.reduceToNat]) | (refine Br.mk ?_ ?_ <;> intro h) | (refine BrN.mk (fun h => ?_) ?_) | (refine AltVC.mk ?_ ?_)
      refine CallVC.eq hp ?_
      repeat' first | ((first | refine Br.dec ?_ ?_ | refine Br.eqi ?_ ?_) <;> intro h <;> try (exfalso; omega)) | (simp (disch := (first | omega | (simp only [vlen]; first | done | omega))) only [vke, ↓vAq, vBq, ↓reduceIte, Nat.reduceBEq, Nat.reduceEqDiff, Nat.reduceLT, Nat.reduceLeDiff, Nat.reduceAdd, Nat.reduceMul, Nat.reduceSub, reduceCtorEq, Int.reduceToNat]) | (refine Br.mk ?_ ?_ <;> intro h) | (refine BrN.mk (fun h => ?_) ?_) | (refine AltVC.mk ?_ ?_)
      exact finH_mk [] (by simp) (by simp) (by simp (disch := (first | omega | (simp only [vlen]; first | done | omega))) only [vke, ↓vAq, vBq, ↓reduceIte, Nat.reduceBEq, Nat.reduceEqDiff, Nat.reduceLT, Nat.reduceLeDiff, Nat.reduceAdd, Nat.reduceMul, Nat.reduceSub, reduceCtorEq, Int.reduceToNat]) (.inr ⟨3, by omega, by rw [ht]; rfl, by omega, by simp (disch := (first | omega | (simp only [vlen]; first | done | omega))) only [vke, ↓vAq, vBq, ↓reduceIte, Nat.reduceBEq, Nat.reduceEqDiff, Nat.reduceLT, Nat.reduceLeDiff, Nat.reduceAdd, Nat.reduceMul, Nat.reduceSub, reduceCtorEq, Int.reduceToNat]⟩)
  · repeat' first | ((first | refine Br.dec ?_ ?_ | refine Br.eqi ?_ ?_) <;> intro h <;> try (exfalso; omega)) | (simp (disch := (first | omega | (simp only [vlen]; first | done | omega))) only [vke, ↓vAq, vBq, ↓reduceIte, Nat.reduceBEq, Nat.reduceEqDiff, Nat.reduceLT, Nat.reduceLeDiff, Nat.reduceAdd, Nat.reduceMul, Nat.reduceSub, reduceCtorEq, Int.reduceToNat]) | (refine Br.mk ?_ ?_ <;> intro h) | (refine BrN.mk (fun h => ?_) ?_) | (refine AltVC.mk ?_ ?_)
    refine CallVC.eq htc ?_
    repeat' first | ((first | refine Br.dec ?_ ?_ | refine Br.eqi ?_ ?_) <;> intro h <;> try (exfalso; omega)) | (simp (disch := (first | omega | (simp only [vlen]; first | done | omega))) only [vke, ↓vAq, vBq, ↓reduceIte, Nat.reduceBEq, Nat.reduceEqDiff, Nat.reduceLT, Nat.reduceLeDiff, Nat.reduceAdd, Nat.reduceMul, Nat.reduceSub, reduceCtorEq, Int.reduceToNat]) | (refine Br.mk ?_ ?_ <;> intro h) | (refine BrN.mk (fun h => ?_) ?_) | (refine AltVC.mk ?_ ?_)
    have ht : tcode g w = gwC g w := by
      unfold gwC at h0 ⊢
      unfold tcode
      by_cases e : gcode g = 0
      · rw [if_pos e] at h0
        rw [if_pos e, if_pos e, if_neg h0]
      · rw [if_neg e, if_neg e]
    exact finH_mk [] (by simp) (by simp) (by simp (disch := (first | omega | (simp only [vlen]; first | done | omega))) only [vke, ↓vAq, vBq, ↓reduceIte, Nat.reduceBEq, Nat.reduceEqDiff, Nat.reduceLT, Nat.reduceLeDiff, Nat.reduceAdd, Nat.reduceMul, Nat.reduceSub, reduceCtorEq, Int.reduceToNat]) (.inr ⟨gwC g w, h0, by rw [ht, if_neg h0], fun h1 => absurd (ht ▸ h1) h0, by simp (disch := (first | omega | (simp only [vlen]; first | done | omega))) only [vke, ↓vAq, vBq, ↓reduceIte, Nat.reduceBEq, Nat.reduceEqDiff, Nat.reduceLT, Nat.reduceLeDiff, Nat.reduceAdd, Nat.reduceMul, Nat.reduceSub, reduceCtorEq, Int.reduceToNat]⟩)
end Go.Proofs.Ytjekkbpdgnohcaa
