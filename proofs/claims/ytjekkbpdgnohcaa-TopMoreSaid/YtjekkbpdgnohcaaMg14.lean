/-
 Texts of this claim, one behind another.
-/
import Derived.Test.YtjekkbpdgnohcaaMg13
import Derived.Test.YtjekkbpdgnohcaaMg11
import Derived.Test.YtjekkbpdgnohcaaDmD
import Derived.Test.YtjekkbpdgnohcaaMg9
import Derived.OrdersIn
import Derived.RangeFuncSeq
import Derived.Test.YtjekkbpdgnohcaaCode
import Derived.RangeFuncBox
import Derived.RangeFuncLeaves
import Derived.Shelf.Abstract
import Derived.WalkKit
import Derived.OwnWalkIn
import Derived.TacticsInMore
import Derived.LoopNIn
import Derived.LoopIn
namespace Go.Proofs.Ytjekkbpdgnohcaa
open Go.Dm
set_option linter.unusedSimpArgs false
set_option linter.unnecessarySimpa false
set_option linter.unusedVariables false
def badSym (k s : Int) : Bool := decide (s < 0 ∨ k ≤ s)
def wcode (k : Int) (w : List Int) : Int := if 12 < (w.length : Int) then 1 else if w.any (badSym k) = true then 2 else 0
theorem wcode_ok {k : Int} {w : List Int} (h : wcode k w = 0) : w.length ≤ 12 ∧ ∀ s, s ∈ w → 0 ≤ s ∧ s < k := by
  unfold wcode at h
  split at h
  · omega
  · split at h
    · omega
    · next h1 h2 =>
      refine ⟨by omega, fun s hs => ?_⟩
      have : ¬ badSym k s = true := fun e => h2 (List.any_eq_true.2 ⟨s, hs, e⟩)
      unfold badSym at this
      rw [decide_eq_true_eq] at this
      omega
theorem getD_ok {k : Int} {w : List Int} (hk : 1 ≤ k) (h : ∀ s, s ∈ w → 0 ≤ s ∧ s < k) (i : Nat) : 0 ≤ w.getD i 0 ∧ w.getD i 0 < k := by
  by_cases hi : i < w.length
  · exact h _ (getD_mem' hi)
  · rw [show w.getD i 0 = 0 by simp [List.getD, show w[i]? = none from List.getElem?_eq_none (by omega)]]; omega
def mstep (m : Dm.Machine) (p s : Int) : Int := (m.next.getD p.toNat default).getD s.toNat 0
def leads (m : Dm.Machine) (p : Int) (w : List Int) : Int := w.foldl (mstep m) p
theorem VM.nx {m : Dm.Machine} (hv : VM m) {p : Int} (hp : 0 ≤ p ∧ p < m.n) : ((m.next.getD p.toNat default).length : Int) = m.k :=
  hv.row _ (getD_mem' (by have := hv.len; omega))
theorem VM.st {m : Dm.Machine} (hv : VM m) {p s : Int} (hp : 0 ≤ p ∧ p < m.n) : 0 ≤ mstep m p s ∧ mstep m p s < m.n := by
  have := hv.len
  exact getD_ok (by have := hv.n; omega) (hv.to _ (getD_mem' (by omega))) _
set_option maxRecDepth 10000 in
set_option maxHeartbeats 4000000 in
theorem wsym_spec (k : Int) (hk : 0 ≤ k ∧ k ≤ 3) (s : Int) : Dm.Spec Try.prog 66 [iv .i64 s, .ip [iv .i64 k] 0] (· = .v (.bool (badSym k s))) := by
  refine spec_of_vc mixed Try.func66 c66 (by rw [show Try.f66.ntmps = _ from Try.ntmps66]; simp) ?_
  unfold m66 r66
  repeat' first | ((first | refine Br.dec ?_ ?_ | refine Br.eqi ?_ ?_) <;> intro h <;> try (exfalso; omega)) | (simp (disch := first | omega | (simp only [vlen]; first | done | omega)) only [↓vAq, vBq, ↓reduceIte, Nat.reduceBEq, Nat.reduceEqDiff, Nat.reduceLT, Nat.reduceLeDiff, Nat.reduceAdd, Nat.reduceMul, Nat.reduceSub, reduceCtorEq, Int.reduceToNat]) | (refine Br.mk ?_ ?_ <;> intro h) | (refine BrN.mk (fun h => ?_) ?_) | (refine AltVC.mk ?_ ?_)
  refine CallVC.eq (within_spec _ _ _) ?_
  repeat' first | ((first | refine Br.dec ?_ ?_ | refine Br.eqi ?_ ?_) <;> intro h <;> try (exfalso; omega)) | (simp (disch := first | omega | (simp only [vlen]; first | done | omega)) only [↓vAq, vBq, ↓reduceIte, Nat.reduceBEq, Nat.reduceEqDiff, Nat.reduceLT, Nat.reduceLeDiff, Nat.reduceAdd, Nat.reduceMul, Nat.reduceSub, reduceCtorEq, Int.reduceToNat]) | (refine Br.mk ?_ ?_ <;> intro h) | (refine BrN.mk (fun h => ?_) ?_) | (refine AltVC.mk ?_ ?_)
  refine fin_mk (vbEq ?_)
  unfold badSym
  rw [← decide_not]
  exact dec_iff (by omega)
set_option maxRecDepth 10000 in
set_option maxHeartbeats 4000000 in
theorem word_spec (k : Int) (hk : 0 ≤ k ∧ k ≤ 3) (w : List Int) (hw : w.length ≤ 9223372036854775807) : Dm.Spec Try.prog 59 [iv .i64 k, .sl 1 (i64s w)] (· = iv .i64 (wcode k w)) := by
  refine spec_of_vc mixed Try.func59 c59 (by rw [show Try.f59.ntmps = _ from Try.ntmps59]; simp) ?_
  unfold m59 r59
  repeat' first | ((first | refine Br.dec ?_ ?_ | refine Br.eqi ?_ ?_) <;> intro h <;> try (exfalso; omega)) | (simp (disch := first | omega | (simp only [vlen]; first | done | omega)) only [↓vAq, vBq, ↓reduceIte, Nat.reduceBEq, Nat.reduceEqDiff, Nat.reduceLT, Nat.reduceLeDiff, Nat.reduceAdd, Nat.reduceMul, Nat.reduceSub, reduceCtorEq, Int.reduceToNat]) | (refine Br.mk ?_ ?_ <;> intro h) | (refine BrN.mk (fun h => ?_) ?_) | (refine AltVC.mk ?_ ?_)
  · exact fin_mk (by rw [wcode, if_pos (by assumption)])
  · refine CallVC.eqo (conF_int w (badSym k) _ [.ip [iv .i64 k] 0] hw (by simp (disch := first | omega | (simp only [vlen]; first | done | omega)) only [↓vAq, vBq, ↓reduceIte, Nat.reduceBEq, Nat.reduceEqDiff, Nat.reduceLT, Nat.reduceLeDiff, Nat.reduceAdd, Nat.reduceMul, Nat.reduceSub, reduceCtorEq, Int.reduceToNat]) fun s _ => wsym_spec k hk s) (by simp (disch := first | omega | (simp only [vlen]; first | done | omega)) only [↓vAq, vBq, ↓reduceIte, Nat.reduceBEq, Nat.reduceEqDiff, Nat.reduceLT, Nat.reduceLeDiff, Nat.reduceAdd, Nat.reduceMul, Nat.reduceSub, reduceCtorEq, Int.reduceToNat]) ?_
    repeat' first | ((first | refine Br.dec ?_ ?_ | refine Br.eqi ?_ ?_) <;> intro h <;> try (exfalso; omega)) | (simp (disch := first | omega | (simp only [vlen]; first | done | omega)) only [↓vAq, vBq, ↓reduceIte, Nat.reduceBEq, Nat.reduceEqDiff, Nat.reduceLT, Nat.reduceLeDiff, Nat.reduceAdd, Nat.reduceMul, Nat.reduceSub, reduceCtorEq, Int.reduceToNat]) | (refine Br.mk ?_ ?_ <;> intro h) | (refine BrN.mk (fun h => ?_) ?_) | (refine AltVC.mk ?_ ?_)
    · exact fin_mk (by rw [wcode, if_neg (by assumption), if_pos (by assumption)])
    · have h2 : w.any (badSym k) = false := by assumption
      exact fin_mk (by rw [wcode, if_neg (by assumption), if_neg (by rw [h2]; simp)])
end Go.Proofs.Ytjekkbpdgnohcaa

namespace Go.Proofs.Ytjekkbpdgnohcaa
open Go.Dm
set_option linter.unusedSimpArgs false
set_option linter.unnecessarySimpa false
set_option linter.unusedVariables false
def gwC (g : Grammar) (w : List Int) : Int := if gcode g = 0 then wcode g.k w else gcode g
set_option maxRecDepth 10000 in
set_option maxHeartbeats 4000000 in
theorem tcheck_spec (g : Grammar) (hg : g.ok) (w : List Int) (hw : w.length ≤ 9223372036854775807) : Dm.Spec Try.prog 42 [.ag (graD g), .sl 1 (i64s w)] (· = iv .i64 (gwC g w)) := by
  refine spec_of_vc mixed Try.func42 c42 (by rw [show Try.f42.ntmps = _ from Try.ntmps42]; simp) ?_
  unfold m42 r42
  unfold gwC
  repeat' first | ((first | refine Br.dec ?_ ?_ | refine Br.eqi ?_ ?_) <;> intro h <;> try (exfalso; omega)) | (simp (disch := first | omega | (simp only [vlen]; first | done | omega)) only [↓vAq, vBq, ↓reduceIte, Nat.reduceBEq, Nat.reduceEqDiff, Nat.reduceLT, Nat.reduceLeDiff, Nat.reduceAdd, Nat.reduceMul, Nat.reduceSub, reduceCtorEq, Int.reduceToNat]) | (refine Br.mk ?_ ?_ <;> intro h) | (refine BrN.mk (fun h => ?_) ?_) | (refine AltVC.mk ?_ ?_)
  refine CallVC.eq (gCheck_spec g hg) ?_
  repeat' first | ((first | refine Br.dec ?_ ?_ | refine Br.eqi ?_ ?_) <;> intro h <;> try (exfalso; omega)) | (simp (disch := first | omega | (simp only [vlen]; first | done | omega)) only [↓vAq, vBq, ↓reduceIte, Nat.reduceBEq, Nat.reduceEqDiff, Nat.reduceLT, Nat.reduceLeDiff, Nat.reduceAdd, Nat.reduceMul, Nat.reduceSub, reduceCtorEq, Int.reduceToNat]) | (refine Br.mk ?_ ?_ <;> intro h) | (refine BrN.mk (fun h => ?_) ?_) | (refine AltVC.mk ?_ ?_)
  · have e : gcode g = 0 := by assumption
    have hk := (valid_of e).k
    refine CallVC.eq (word_spec g.k (by omega) w hw) ?_
    repeat' first | ((first | refine Br.dec ?_ ?_ | refine Br.eqi ?_ ?_) <;> intro h <;> try (exfalso; omega)) | (simp (disch := first | omega | (simp only [vlen]; first | done | omega)) only [↓vAq, vBq, ↓reduceIte, Nat.reduceBEq, Nat.reduceEqDiff, Nat.reduceLT, Nat.reduceLeDiff, Nat.reduceAdd, Nat.reduceMul, Nat.reduceSub, reduceCtorEq, Int.reduceToNat]) | (refine Br.mk ?_ ?_ <;> intro h) | (refine BrN.mk (fun h => ?_) ?_) | (refine AltVC.mk ?_ ?_)
    exact fin_mk (by rw [if_pos e])
  · exact fin_mk (by rw [if_neg (by assumption)])
end Go.Proofs.Ytjekkbpdgnohcaa

namespace Go.Proofs.Ytjekkbpdgnohcaa
open Go.Dm
set_option linter.unusedSimpArgs false
set_option linter.unnecessarySimpa false
set_option linter.unusedVariables false
set_option linter.defProp false
def propB (g : Grammar) (r : Rule) : Bool := decide (¬ (r.right.length = 0 ∨ (r.right.length = 1 ∧ g.k ≤ r.right.getD 0 0)))
def isProper (g : Grammar) : Bool := g.rules.all (propB g)
theorem isProper_iff {g : Grammar} : isProper g = true ↔ Proper g := by
  unfold isProper Proper
  rw [List.all_eq_true]
  refine ⟨fun h r hr => ?_, fun h r hr => ?_⟩
  · have := of_decide_eq_true (h r hr)
    refine ⟨fun e => this (.inl (by rw [e]; rfl)), fun x e => ?_⟩
    rw [e] at this
    have h2 : ¬ (g.k ≤ x) := fun h3 => this (.inr ⟨rfl, h3⟩)
    omega
  · refine decide_eq_true fun h2 => ?_
    have := h r hr
    rcases h2 with h2 | ⟨h2, h3⟩
    · exact this.1 (List.eq_nil_of_length_eq_zero h2)
    · match hl : r.right, h2 with
      | [x], _ =>
        have := this.2 x hl
        rw [hl] at h3
        simp at h3; omega
set_option maxRecDepth 10000 in
set_option maxHeartbeats 4000000 in
theorem prop1_spec (g : Grammar) (r : Rule) (hr : r.right.length ≤ 1000) : Dm.Spec Try.prog 60 [.ag (rulD r), .ip (graD g) 0] (· = .v (.bool (!propB g r))) := by
  refine spec_of_vc mixed Try.func60 c60 (by rw [show Try.f60.ntmps = _ from Try.ntmps60]; simp) ?_
  unfold m60 r60
  repeat' first | ((first | refine Br.dec ?_ ?_ | refine Br.eqi ?_ ?_) <;> intro h <;> try (exfalso; omega)) | (simp (disch := first | omega | (simp only [vlen]; first | done | omega)) only [↓vAq, vBq, ↓reduceIte, Nat.reduceBEq, Nat.reduceEqDiff, Nat.reduceLT, Nat.reduceLeDiff, Nat.reduceAdd, Nat.reduceMul, Nat.reduceSub, reduceCtorEq, Int.reduceToNat]) | (refine Br.mk ?_ ?_ <;> intro h) | (refine BrN.mk (fun h => ?_) ?_) | (refine AltVC.mk ?_ ?_)
  all_goals (refine fin_mk (vbEq ?_); unfold propB; rw [← decide_not]; first | exact (decide_eq_true (by omega)).symm | exact (decide_eq_false (by omega)).symm | exact dec_iff (by omega))
set_option maxRecDepth 10000 in
set_option maxHeartbeats 4000000 in
theorem proper_spec (g : Grammar) (hr : g.rules.length ≤ 9223372036854775807) (hl : ∀ r, r ∈ g.rules → r.right.length ≤ 1000) : Dm.Spec Try.prog 43 [.ag (graD g)] (· = .v (.bool (isProper g))) := by
  refine spec_of_vc mixed Try.func43 c43 (by rw [show Try.f43.ntmps = _ from Try.ntmps43]; simp) ?_
  unfold m43 r43
  repeat' first | ((first | refine Br.dec ?_ ?_ | refine Br.eqi ?_ ?_) <;> intro h <;> try (exfalso; omega)) | (simp (disch := first | omega | (simp only [vlen]; first | done | omega)) only [↓vAq, vBq, ↓reduceIte, Nat.reduceBEq, Nat.reduceEqDiff, Nat.reduceLT, Nat.reduceLeDiff, Nat.reduceAdd, Nat.reduceMul, Nat.reduceSub, reduceCtorEq, Int.reduceToNat]) | (refine Br.mk ?_ ?_ <;> intro h) | (refine BrN.mk (fun h => ?_) ?_) | (refine AltVC.mk ?_ ?_)
  refine CallVC.eqo (conF_rule g.rules (fun r => !propB g r) _ [.ip (graD g) 0] hr (by simp (disch := first | omega | (simp only [vlen]; first | done | omega)) only [↓vAq, vBq, ↓reduceIte, Nat.reduceBEq, Nat.reduceEqDiff, Nat.reduceLT, Nat.reduceLeDiff, Nat.reduceAdd, Nat.reduceMul, Nat.reduceSub, reduceCtorEq, Int.reduceToNat]) fun r h => prop1_spec g r (hl r h)) (by simp (disch := first | omega | (simp only [vlen]; first | done | omega)) only [↓vAq, vBq, ↓reduceIte, Nat.reduceBEq, Nat.reduceEqDiff, Nat.reduceLT, Nat.reduceLeDiff, Nat.reduceAdd, Nat.reduceMul, Nat.reduceSub, reduceCtorEq, Int.reduceToNat]) ?_
  repeat' first | ((first | refine Br.dec ?_ ?_ | refine Br.eqi ?_ ?_) <;> intro h <;> try (exfalso; omega)) | (simp (disch := first | omega | (simp only [vlen]; first | done | omega)) only [↓vAq, vBq, ↓reduceIte, Nat.reduceBEq, Nat.reduceEqDiff, Nat.reduceLT, Nat.reduceLeDiff, Nat.reduceAdd, Nat.reduceMul, Nat.reduceSub, reduceCtorEq, Int.reduceToNat]) | (refine Br.mk ?_ ?_ <;> intro h) | (refine BrN.mk (fun h => ?_) ?_) | (refine AltVC.mk ?_ ?_)
  exact fin_mk (vbEq all_not')
def tcode (g : Grammar) (w : List Int) : Int := if gcode g = 0 then (if wcode g.k w = 0 then (if isProper g = true then 0 else 3) else wcode g.k w) else gcode g
def trN (g : Grammar) (w : List Int) : Nat := trees g w (g.k + g.start) 0 w.length
theorem cc_of {g : Grammar} {w : List Int} (h : tcode g w = 0) : CC g w ∧ gcode g = 0 ∧ wcode g.k w = 0 ∧ isProper g = true := by
  unfold tcode at h
  split at h
  · next h1 =>
    split at h
    · next h2 =>
      split at h
      · next h3 => exact ⟨⟨valid_of h1, isProper_iff.mp h3, (wcode_ok h2).1⟩, h1, h2, h3⟩
      · omega
    · next h2 => exact absurd h h2
  · next h1 => exact absurd h h1
def nwR (g : Grammar) (w : List Int) (d : D) (o : List (Option Ob)) : Prop := d = .ptr 2 6 0 0 ∧ o = [none, some ⟨5, tbl keD [], true, false, .map [.i64, .i64, .i64, .i64] true false⟩, some ⟨6, [[iv .i64 g.k, iv .i64 g.n, iv .i64 g.start, .sl 2 (tbl rulD g.rules), .sl 1 (i64s w), .mp 1]], false, false, .fix⟩]
set_option maxRecDepth 10000 in
set_option maxHeartbeats 4000000 in
theorem newC_spec (g : Grammar) (w : List Int) : Dm.SpecH Try.prog 44 [.ag (graD g), .sl 1 (i64s w)] [] (nwR g w) := by
  refine specH_of_vc mixed Try.func44 c44 (by rw [show Try.f44.ntmps = _ from Try.ntmps44]; simp) ?_
  unfold m44 r44
  repeat' first | ((first | refine Br.dec ?_ ?_ | refine Br.eqi ?_ ?_) <;> intro h <;> try (exfalso; omega)) | (simp (disch := first | omega | (simp only [vlen]; first | done | omega)) only [vke, ↓vAq, vBq, ↓reduceIte, Nat.reduceBEq, Nat.reduceEqDiff, Nat.reduceLT, Nat.reduceLeDiff, Nat.reduceAdd, Nat.reduceMul, Nat.reduceSub, reduceCtorEq, Int.reduceToNat]) | (refine Br.mk ?_ ?_ <;> intro h) | (refine BrN.mk (fun h => ?_) ?_) | (refine AltVC.mk ?_ ?_)
  exact finH_mk [none, some ⟨5, tbl keD [], true, false, .map [.i64, .i64, .i64, .i64] true false⟩, some ⟨6, [[iv .i64 g.k, iv .i64 g.n, iv .i64 g.start, .sl 2 (tbl rulD g.rules), .sl 1 (i64s w), .mp 1]], false, false, .fix⟩] (by simp) (by simp (disch := first | omega | (simp only [vlen]; first | done | omega)) only [vke, ↓vAq, vBq, ↓reduceIte, Nat.reduceBEq, Nat.reduceEqDiff, Nat.reduceLT, Nat.reduceLeDiff, Nat.reduceAdd, Nat.reduceMul, Nat.reduceSub, reduceCtorEq, Int.reduceToNat]) (by simp (disch := first | omega | (simp only [vlen]; first | done | omega)) only [tbl_nil, vke, ↓vAq, vBq, ↓reduceIte, Nat.reduceBEq, Nat.reduceEqDiff, Nat.reduceLT, Nat.reduceLeDiff, Nat.reduceAdd, Nat.reduceMul, Nat.reduceSub, reduceCtorEq, Int.reduceToNat]) ⟨by simp (disch := first | omega | (simp only [vlen]; first | done | omega)) only [vke, ↓vAq, vBq, ↓reduceIte, Nat.reduceBEq, Nat.reduceEqDiff, Nat.reduceLT, Nat.reduceLeDiff, Nat.reduceAdd, Nat.reduceMul, Nat.reduceSub, reduceCtorEq, Int.reduceToNat], rfl⟩
def whR (g : Grammar) (w : List Int) (d : D) (o : List (Option Ob)) : Prop :=
  (tcode g w = 0 ∧ trN g w ≤ 1099511627776 ∧ ∃ L, d = .tu [.ptr 3 6 0 0, iv .i64 (trN g w), iv .i64 0] ∧ o = [none, none, some ⟨5, tbl keD L, true, false, .map [.i64, .i64, .i64, .i64] true false⟩, some ⟨6, [[iv .i64 g.k, iv .i64 g.n, iv .i64 g.start, .sl 2 (tbl rulD g.rules), .sl 1 (i64s w), .mp 2]], false, false, .fix⟩] ∧ MI g w L) ∨
  (∃ c : Int, c ≠ 0 ∧ c = (if tcode g w = 0 then 1 else tcode g w) ∧ (tcode g w = 0 → 1099511627776 < trN g w) ∧ d = .tu [.v (.pointer none), iv .i64 0, iv .i64 c])
set_option maxRecDepth 10000 in
set_option maxHeartbeats 4000000 in
theorem whole_spec (g : Grammar) (hg : g.ok) (w : List Int) (hw : w.length ≤ 9223372036854775807) : Dm.SpecH Try.prog 25 [.ag (graD g), .sl 1 (i64s w)] [] (whR g w) := by
  refine specH_of_vc mixed Try.func25 c25 (by rw [show Try.f25.ntmps = _ from Try.ntmps25]; simp) ?_
  unfold m25 r25
  have hr : g.rules.length ≤ 9223372036854775807 := maxLen_le hg.2.2.2.1
  have htc := tcheck_spec g hg w hw
  by_cases h0 : gwC g w = 0
  · have e : gcode g = 0 := by unfold gwC at h0; split at h0 <;> assumption
    have hv := valid_of e
    have e2 : wcode g.k w = 0 := by unfold gwC at h0; rwa [if_pos e] at h0
    have hk := hv.k
    have hn := hv.n
    have hst := hv.start
    rw [h0] at htc
    have hp := proper_spec g hr fun r h => by have := hv.long r h; omega
    have hwl := (wcode_ok e2).1
    cases hb : isProper g with
    | true =>
      have ht : tcode g w = 0 := by unfold tcode; rw [if_pos e, if_pos e2, if_pos hb]
      have hc := (cc_of ht).1
      rw [hb] at hp
      repeat' first | ((first | refine Br.dec ?_ ?_ | refine Br.eqi ?_ ?_) <;> intro h <;> try (exfalso; omega)) | (simp (disch := first | omega | (simp only [vlen]; first | done | omega)) only [vke, ↓vAq, vBq, ↓reduceIte, Nat.reduceBEq, Nat.reduceEqDiff, Nat.reduceLT, Nat.reduceLeDiff, Nat.reduceAdd, Nat.reduceMul, Nat.reduceSub, reduceCtorEq, Int.reduceToNat]) | (refine Br.mk ?_ ?_ <;> intro h) | (refine BrN.mk (fun h => ?_) ?_) | (refine AltVC.mk ?_ ?_)
      refine CallVC.eq htc ?_
      repeat' first | ((first | refine Br.dec ?_ ?_ | refine Br.eqi ?_ ?_) <;> intro h <;> try (exfalso; omega)) | (simp (disch := first | omega | (simp only [vlen]; first | done | omega)) only [vke, ↓vAq, vBq, ↓reduceIte, Nat.reduceBEq, Nat.reduceEqDiff, Nat.reduceLT, Nat.reduceLeDiff, Nat.reduceAdd, Nat.reduceMul, Nat.reduceSub, reduceCtorEq, Int.reduceToNat]) | (refine Br.mk ?_ ?_ <;> intro h) | (refine BrN.mk (fun h => ?_) ?_) | (refine AltVC.mk ?_ ?_)
      refine CallVC.eq hp ?_
      repeat' first | ((first | refine Br.dec ?_ ?_ | refine Br.eqi ?_ ?_) <;> intro h <;> try (exfalso; omega)) | (simp (disch := first | omega | (simp only [vlen]; first | done | omega)) only [vke, ↓vAq, vBq, ↓reduceIte, Nat.reduceBEq, Nat.reduceEqDiff, Nat.reduceLT, Nat.reduceLeDiff, Nat.reduceAdd, Nat.reduceMul, Nat.reduceSub, reduceCtorEq, Int.reduceToNat]) | (refine Br.mk ?_ ?_ <;> intro h) | (refine BrN.mk (fun h => ?_) ?_) | (refine AltVC.mk ?_ ?_)
      refine CallVC.lendE [] [.ag (graD g), .sl 1 (i64s w)] [] (newC_spec g w) (by simp) (by rfl) (by (simp (disch := first | omega | (simp only [vlen]; first | done | omega)) only [vle0, ↓vAq, vBq, ↓reduceIte, Nat.reduceBEq, Nat.reduceEqDiff, Nat.reduceLT, Nat.reduceLeDiff, Nat.reduceAdd, Nat.reduceMul, Nat.reduceSub, reduceCtorEq, Int.reduceToNat] <;> (repeat' first | rfl | apply And.intro))) ?_
      rintro _ _ ⟨rfl, rfl⟩
      repeat' first | ((first | refine Br.dec ?_ ?_ | refine Br.eqi ?_ ?_) <;> intro h <;> try (exfalso; omega)) | (simp (disch := first | omega | (simp only [vlen]; first | done | omega)) only [vke, ↓vAq, vBq, ↓reduceIte, Nat.reduceBEq, Nat.reduceEqDiff, Nat.reduceLT, Nat.reduceLeDiff, Nat.reduceAdd, Nat.reduceMul, Nat.reduceSub, reduceCtorEq, Int.reduceToNat]) | (refine Br.mk ?_ ?_ <;> intro h) | (refine BrN.mk (fun h => ?_) ?_) | (refine AltVC.mk ?_ ?_)
      refine CallVC.lendE [3, 2] [.ptr 0 6 0 0, iv .i64 (g.k + g.start), .ag [iv .i64 (0 : Nat), iv .i64 w.length]] (coO g w []) (sign_spec g w hc (g.k + g.start) 0 w.length (by omega) (by omega) (Nat.zero_le _) (Nat.le_refl _) [] MI.nil) (by simp) (by rfl) (by unfold coO; (simp (disch := first | omega | (simp only [vlen]; first | done | omega)) only [vle0, ↓vAq, vBq, ↓reduceIte, Nat.reduceBEq, Nat.reduceEqDiff, Nat.reduceLT, Nat.reduceLeDiff, Nat.reduceAdd, Nat.reduceMul, Nat.reduceSub, reduceCtorEq, Int.reduceToNat] <;> (repeat' first | rfl | apply And.intro))) ?_
      rintro _ _ ⟨L2, rfl, rfl, hL2⟩
      unfold coO
      rw [show trees g w (g.k + g.start) 0 w.length = trN g w from rfl]
      repeat' first | ((first | refine Br.dec ?_ ?_ | refine Br.eqi ?_ ?_) <;> intro h <;> try (exfalso; omega)) | (simp (disch := first | omega | (simp only [vlen]; first | done | omega)) only [vke, ↓vAq, vBq, ↓reduceIte, Nat.reduceBEq, Nat.reduceEqDiff, Nat.reduceLT, Nat.reduceLeDiff, Nat.reduceAdd, Nat.reduceMul, Nat.reduceSub, reduceCtorEq, Int.reduceToNat]) | (refine Br.mk ?_ ?_ <;> intro h) | (refine BrN.mk (fun h => ?_) ?_) | (refine AltVC.mk ?_ ?_)
      · have hbig : 1099511627776 < trN g w := by unfold cp at h; omega
        exact finH_mk [] (by simp) (by simp) (by simp (disch := first | omega | (simp only [vlen]; first | done | omega)) only [vke, ↓vAq, vBq, ↓reduceIte, Nat.reduceBEq, Nat.reduceEqDiff, Nat.reduceLT, Nat.reduceLeDiff, Nat.reduceAdd, Nat.reduceMul, Nat.reduceSub, reduceCtorEq, Int.reduceToNat]) (.inr ⟨1, by omega, by rw [if_pos ht], fun _ => hbig, by simp (disch := first | omega | (simp only [vlen]; first | done | omega)) only [vke, ↓vAq, vBq, ↓reduceIte, Nat.reduceBEq, Nat.reduceEqDiff, Nat.reduceLT, Nat.reduceLeDiff, Nat.reduceAdd, Nat.reduceMul, Nat.reduceSub, reduceCtorEq, Int.reduceToNat]⟩)
      · have hsm : trN g w ≤ 1099511627776 := by unfold cp at h; omega
        have hcp : cp (trN g w) = trN g w := by unfold cp; omega
        rw [hcp]
        exact finH_mk [none, none, some ⟨5, tbl keD L2, true, false, .map [.i64, .i64, .i64, .i64] true false⟩, some ⟨6, [[iv .i64 g.k, iv .i64 g.n, iv .i64 g.start, .sl 2 (tbl rulD g.rules), .sl 1 (i64s w), .mp 2]], false, false, .fix⟩] (by simp) (by simp (disch := first | omega | (simp only [vlen]; first | done | omega)) only [vke, ↓vAq, vBq, ↓reduceIte, Nat.reduceBEq, Nat.reduceEqDiff, Nat.reduceLT, Nat.reduceLeDiff, Nat.reduceAdd, Nat.reduceMul, Nat.reduceSub, reduceCtorEq, Int.reduceToNat]) (by simp (disch := first | omega | (simp only [vlen]; first | done | omega)) only [vke, ↓vAq, vBq, ↓reduceIte, Nat.reduceBEq, Nat.reduceEqDiff, Nat.reduceLT, Nat.reduceLeDiff, Nat.reduceAdd, Nat.reduceMul, Nat.reduceSub, reduceCtorEq, Int.reduceToNat]) (.inl ⟨ht, hsm, L2, by simp (disch := first | omega | (simp only [vlen]; first | done | omega)) only [vke, ↓vAq, vBq, ↓reduceIte, Nat.reduceBEq, Nat.reduceEqDiff, Nat.reduceLT, Nat.reduceLeDiff, Nat.reduceAdd, Nat.reduceMul, Nat.reduceSub, reduceCtorEq, Int.reduceToNat], rfl, hL2⟩)
    | false =>
      have ht : tcode g w = 3 := by unfold tcode; rw [if_pos e, if_pos e2, if_neg (by rw [hb]; simp)]
      rw [hb] at hp
      repeat' first | ((first | refine Br.dec ?_ ?_ | refine Br.eqi ?_ ?_) <;> intro h <;> try (exfalso; omega)) | (simp (disch := first | omega | (simp only [vlen]; first | done | omega)) only [vke, ↓vAq, vBq, ↓reduceIte, Nat.reduceBEq, Nat.reduceEqDiff, Nat.reduceLT, Nat.reduceLeDiff, Nat.reduceAdd, Nat.reduceMul, Nat.reduceSub, reduceCtorEq, Int.reduceToNat]) | (refine Br.mk ?_ ?_ <;> intro h) | (refine BrN.mk (fun h => ?_) ?_) | (refine AltVC.mk ?_ ?_)
      refine CallVC.eq htc ?_
      repeat' first | ((first | refine Br.dec ?_ ?_ | refine Br.eqi ?_ ?_) <;> intro h <;> try (exfalso; omega)) | (simp (disch := first | omega | (simp only [vlen]; first | done | omega)) only [vke, ↓vAq, vBq, ↓reduceIte, Nat.reduceBEq, Nat.reduceEqDiff, Nat.reduceLT, Nat.reduceLeDiff, Nat.reduceAdd, Nat.reduceMul, Nat.reduceSub, reduceCtorEq, Int.reduceToNat]) | (refine Br.mk ?_ ?_ <;> intro h) | (refine BrN.mk (fun h => ?_) ?_) | (refine AltVC.mk ?_ ?_)
      refine CallVC.eq hp ?_
      repeat' first | ((first | refine Br.dec ?_ ?_ | refine Br.eqi ?_ ?_) <;> intro h <;> try (exfalso; omega)) | (simp (disch := first | omega | (simp only [vlen]; first | done | omega)) only [vke, ↓vAq, vBq, ↓reduceIte, Nat.reduceBEq, Nat.reduceEqDiff, Nat.reduceLT, Nat.reduceLeDiff, Nat.reduceAdd, Nat.reduceMul, Nat.reduceSub, reduceCtorEq, Int.reduceToNat]) | (refine Br.mk ?_ ?_ <;> intro h) | (refine BrN.mk (fun h => ?_) ?_) | (refine AltVC.mk ?_ ?_)
      exact finH_mk [] (by simp) (by simp) (by simp (disch := first | omega | (simp only [vlen]; first | done | omega)) only [vke, ↓vAq, vBq, ↓reduceIte, Nat.reduceBEq, Nat.reduceEqDiff, Nat.reduceLT, Nat.reduceLeDiff, Nat.reduceAdd, Nat.reduceMul, Nat.reduceSub, reduceCtorEq, Int.reduceToNat]) (.inr ⟨3, by omega, by rw [ht]; rfl, by omega, by simp (disch := first | omega | (simp only [vlen]; first | done | omega)) only [vke, ↓vAq, vBq, ↓reduceIte, Nat.reduceBEq, Nat.reduceEqDiff, Nat.reduceLT, Nat.reduceLeDiff, Nat.reduceAdd, Nat.reduceMul, Nat.reduceSub, reduceCtorEq, Int.reduceToNat]⟩)
  · repeat' first | ((first | refine Br.dec ?_ ?_ | refine Br.eqi ?_ ?_) <;> intro h <;> try (exfalso; omega)) | (simp (disch := first | omega | (simp only [vlen]; first | done | omega)) only [vke, ↓vAq, vBq, ↓reduceIte, Nat.reduceBEq, Nat.reduceEqDiff, Nat.reduceLT, Nat.reduceLeDiff, Nat.reduceAdd, Nat.reduceMul, Nat.reduceSub, reduceCtorEq, Int.reduceToNat]) | (refine Br.mk ?_ ?_ <;> intro h) | (refine BrN.mk (fun h => ?_) ?_) | (refine AltVC.mk ?_ ?_)
    refine CallVC.eq htc ?_
    repeat' first | ((first | refine Br.dec ?_ ?_ | refine Br.eqi ?_ ?_) <;> intro h <;> try (exfalso; omega)) | (simp (disch := first | omega | (simp only [vlen]; first | done | omega)) only [vke, ↓vAq, vBq, ↓reduceIte, Nat.reduceBEq, Nat.reduceEqDiff, Nat.reduceLT, Nat.reduceLeDiff, Nat.reduceAdd, Nat.reduceMul, Nat.reduceSub, reduceCtorEq, Int.reduceToNat]) | (refine Br.mk ?_ ?_ <;> intro h) | (refine BrN.mk (fun h => ?_) ?_) | (refine AltVC.mk ?_ ?_)
    have ht : tcode g w = gwC g w := by
      unfold gwC at h0 ⊢
      unfold tcode
      by_cases e : gcode g = 0
      · rw [if_pos e] at h0
        rw [if_pos e, if_pos e, if_neg h0]
      · rw [if_neg e, if_neg e]
    exact finH_mk [] (by simp) (by simp) (by simp (disch := first | omega | (simp only [vlen]; first | done | omega)) only [vke, ↓vAq, vBq, ↓reduceIte, Nat.reduceBEq, Nat.reduceEqDiff, Nat.reduceLT, Nat.reduceLeDiff, Nat.reduceAdd, Nat.reduceMul, Nat.reduceSub, reduceCtorEq, Int.reduceToNat]) (.inr ⟨gwC g w, h0, by rw [ht, if_neg h0], fun h1 => absurd (ht ▸ h1) h0, by simp (disch := first | omega | (simp only [vlen]; first | done | omega)) only [vke, ↓vAq, vBq, ↓reduceIte, Nat.reduceBEq, Nat.reduceEqDiff, Nat.reduceLT, Nat.reduceLeDiff, Nat.reduceAdd, Nat.reduceMul, Nat.reduceSub, reduceCtorEq, Int.reduceToNat]⟩)
end Go.Proofs.Ytjekkbpdgnohcaa

namespace Go.Dm
set_option linter.unusedSimpArgs false
set_option linter.unusedVariables false
def RuleAt (g : Grammar) (x q : Int) : Prop := 0 ≤ q ∧ q < g.rules.length ∧ (g.rules.getD q.toNat default).left = x - g.k
inductive Pr (g : Grammar) : List Int → List Int → List Int → List Int → Prop
  | nil {st : List Int} : Pr g [] st [] st
  | sym {x : Int} {s st w r : List Int} (hx : x < g.k) (h : Pr g s st w r) : Pr g (x :: s) st (x :: w) r
  | name {x q : Int} {s st w r : List Int} (hx : ¬ x < g.k) (hq : RuleAt g x q) (h : Pr g ((g.rules.getD q.toNat default).right ++ s) st w r) : Pr g (x :: s) (q :: st) w r
theorem Pr.det {g : Grammar} {s st w r w' r' : List Int} (h : Pr g s st w r) (h' : Pr g s st w' r') : w = w' ∧ r = r' := by
  induction h generalizing w' r' with
  | nil => cases h'; exact ⟨rfl, rfl⟩
  | sym hx _ ih =>
    cases h' with
    | sym _ h2 => have := ih h2; exact ⟨by rw [this.1], this.2⟩
    | name hn _ _ => exact absurd hx hn
  | name hx hq _ ih =>
    cases h' with
    | sym hn _ => exact absurd hn hx
    | name _ _ h2 => exact ih h2
theorem Pr.app {g : Grammar} {a b st w1 m w2 r : List Int} (h : Pr g a st w1 m) (k : Pr g b m w2 r) : Pr g (a ++ b) st (w1 ++ w2) r := by
  induction h with
  | nil => exact k
  | sym hx _ ih => exact .sym hx (ih k)
  | @name x q s st w r hx hq _ ih =>
    refine .name hx hq ?_
    have := ih k
    rwa [List.append_assoc] at this
theorem Pr.split {g : Grammar} {c st w r : List Int} (h : Pr g c st w r) : ∀ {a b : List Int}, c = a ++ b → ∃ w1 m w2, Pr g a st w1 m ∧ Pr g b m w2 r ∧ w = w1 ++ w2 := by
  induction h with
  | nil =>
    intro a b e
    obtain ⟨rfl, rfl⟩ := List.append_eq_nil_iff.mp e.symm
    exact ⟨[], _, [], .nil, .nil, rfl⟩
  | @sym x s st w r hx h ih =>
    intro a b e
    cases a with
    | nil => simp only [List.nil_append] at e; subst e; exact ⟨[], _, _, .nil, .sym hx h, rfl⟩
    | cons y a =>
      simp only [List.cons_append, List.cons.injEq] at e
      obtain ⟨rfl, rfl⟩ := e
      obtain ⟨w1, m, w2, h1, h2, h3⟩ := ih rfl
      exact ⟨x :: w1, m, w2, .sym hx h1, h2, by rw [h3]; rfl⟩
  | @name x q s st w r hx hq h ih =>
    intro a b e
    cases a with
    | nil => simp only [List.nil_append] at e; subst e; exact ⟨[], _, _, .nil, .name hx hq h, rfl⟩
    | cons y a =>
      simp only [List.cons_append, List.cons.injEq] at e
      obtain ⟨rfl, rfl⟩ := e
      obtain ⟨w1, m, w2, h1, h2, h3⟩ := ih (by rw [List.append_assoc])
      exact ⟨w1, m, w2, .name hx hq h1, h2, h3⟩
theorem Pr.terms {g : Grammar} {u st : List Int} (h : ∀ x, x ∈ u → x < g.k) : Pr g u st u st := by
  induction u with
  | nil => exact .nil
  | cons x u ih => exact .sym (h x (by simp)) (ih fun y hy => h y (List.mem_cons_of_mem _ hy))
theorem Pr.pass {g : Grammar} {u s st w r : List Int} (h : ∀ x, x ∈ u → x < g.k) : Pr g (u ++ s) st w r ↔ ∃ w', Pr g s st w' r ∧ w = u ++ w' := by
  constructor
  · intro hp
    obtain ⟨w1, m, w2, h1, h2, h3⟩ := hp.split rfl
    obtain ⟨rfl, rfl⟩ := h1.det (Pr.terms h)
    exact ⟨w2, h2, h3⟩
  · rintro ⟨w', h1, rfl⟩
    exact (Pr.terms h).app h1
theorem Pr.step {g : Grammar} {u s st w r : List Int} {x q : Int} (h : ∀ x, x ∈ u → x < g.k) (hx : ¬ x < g.k) : Pr g (u ++ x :: s) (q :: st) w r ↔ RuleAt g x q ∧ Pr g (u ++ ((g.rules.getD q.toNat default).right ++ s)) st w r := by
  rw [Pr.pass h]
  constructor
  · rintro ⟨w', h1, rfl⟩
    cases h1 with
    | sym hn _ => exact absurd hn hx
    | name _ hq h2 => exact ⟨hq, (Pr.pass h).mpr ⟨w', h2, rfl⟩⟩
  · rintro ⟨hq, h1⟩
    obtain ⟨w', h2, rfl⟩ := (Pr.pass h).mp h1
    exact ⟨w', .name hx hq h2, rfl⟩
theorem Pr.done {g : Grammar} {l w r : List Int} (h : Pr g l [] w r) : (∀ x, x ∈ l → x < g.k) ∧ w = l ∧ r = [] := by
  generalize he : ([] : List Int) = st at h
  induction h with
  | nil => subst he; exact ⟨by simp, rfl, rfl⟩
  | sym hx _ ih =>
    obtain ⟨h1, h2, h3⟩ := ih he
    refine ⟨fun y hy => ?_, by rw [h2], h3⟩
    rcases List.mem_cons.mp hy with e | hy
    · rw [e]; exact hx
    · exact h1 y hy
  | name _ _ _ _ => cases he
theorem Pr.len {g : Grammar} {B : Nat} (hB : ∀ q, q < g.rules.length → (g.rules.getD q default).right.length ≤ B) {s st w r : List Int} (h : Pr g s st w r) : r.length ≤ st.length ∧ w.length ≤ s.length + B * (st.length - r.length) := by
  induction h with
  | nil => exact ⟨Nat.le_refl _, by simp⟩
  | sym _ _ ih => refine ⟨ih.1, ?_⟩; have := ih.2; simp only [List.length_cons]; omega
  | @name x q s st w r hx hq _ ih =>
    obtain ⟨h1, h2⟩ := ih
    have h3 := hB q.toNat (by have := hq.1; have := hq.2.1; omega)
    refine ⟨by simp only [List.length_cons]; omega, ?_⟩
    rw [List.length_append] at h2
    simp only [List.length_cons]
    rw [show st.length + 1 - r.length = (st.length - r.length) + 1 by omega, Nat.mul_succ]
    omega
end Go.Dm

namespace Go.Dm
set_option linter.unusedSimpArgs false
set_option linter.unnecessarySimpa false
set_option linter.unusedVariables false
def cutN : Nat → Nat → Nat → List (List Nat)
  | 0, _, to => [[to]]
  | n + 1, frm, to => (List.range (to - (frm + 1))).flatMap fun q => (cutN n (frm + 1 + q) to).map fun r => (frm + 1 + q) :: r
theorem cutN_len : ∀ {n i j : Nat} {c : List Nat}, c ∈ cutN n i j → c.length = n + 1
  | 0, i, j, c, h => by simp [cutN] at h; subst h; rfl
  | n + 1, i, j, c, h => by
    simp only [cutN, List.mem_flatMap, List.mem_map] at h
    obtain ⟨q, _, r, hr, rfl⟩ := h
    rw [List.length_cons, cutN_len hr]
theorem cutN_last : ∀ {n i j : Nat} {c : List Nat}, c ∈ cutN n i j → c.getLast? = some j
  | 0, i, j, c, h => by simp [cutN] at h; subst h; rfl
  | n + 1, i, j, c, h => by
    simp only [cutN, List.mem_flatMap, List.mem_map] at h
    obtain ⟨q, _, r, hr, rfl⟩ := h
    have := cutN_last hr
    cases r with
    | nil => simp at this
    | cons y r => rw [List.getLast?_cons_cons]; exact this
theorem nodup_flat {α β : Type} {f : α → List β} : ∀ {l : List α}, l.Nodup → (∀ x, x ∈ l → (f x).Nodup) → (∀ x, x ∈ l → ∀ y, y ∈ l → x ≠ y → ∀ z, z ∈ f x → z ∉ f y) → (l.flatMap f).Nodup
  | [], _, _, _ => by simp
  | x :: l, hn, h1, h2 => by
    rw [List.nodup_cons] at hn
    rw [List.flatMap_cons, List.nodup_append]
    refine ⟨h1 x (by simp), nodup_flat hn.2 (fun y hy => h1 y (by simp [hy])) (fun y hy z hz => h2 y (by simp [hy]) z (by simp [hz])), fun a ha b hb e => ?_⟩
    subst e
    obtain ⟨y, hy, hz⟩ := List.mem_flatMap.1 hb
    exact h2 x (by simp) y (by simp [hy]) (fun e => hn.1 (e ▸ hy)) a ha hz
theorem cutN_nodup : ∀ {n i j : Nat}, (cutN n i j).Nodup
  | 0, i, j => by simp [cutN]
  | n + 1, i, j => by
    unfold cutN
    refine nodup_flat List.nodup_range (fun q _ => ?_) (fun x _ y _ hxy z hz hz' => ?_)
    · have := cutN_nodup (n := n) (i := i + 1 + q) (j := j)
      exact List.Pairwise.map _ (fun a b hab e => hab (by simpa using e)) this
    · obtain ⟨r, _, rfl⟩ := List.mem_map.1 hz
      obtain ⟨r', _, e⟩ := List.mem_map.1 hz'
      simp only [List.cons.injEq] at e
      omega
theorem cutN_inj {n i j c c' : Nat} (h : c < (cutN n i j).length) (h' : c' < (cutN n i j).length) (e : (cutN n i j).getD c [] = (cutN n i j).getD c' []) : c = c' := by
  rw [List.getD_eq_getElem?_getD, List.getD_eq_getElem?_getD, List.getElem?_eq_getElem h, List.getElem?_eq_getElem h'] at e
  exact (List.getElem_inj cutN_nodup).1 (by simpa using e)
theorem getD_cut {n i j c : Nat} (h : c < (cutN n i j).length) : (cutN n i j).getD c [] ∈ cutN n i j := by
  rw [List.getD_eq_getElem?_getD, List.getElem?_eq_getElem h]; exact List.getElem_mem h
def prT (g : Grammar) (w : List Int) : List Int → Nat → List Nat → Nat
  | x :: l, i, e :: es => trees g w x i e * prT g w l e es
  | _, _, _ => 1
theorem prT_nil {g : Grammar} {w : List Int} {i : Nat} {es : List Nat} : prT g w [] i es = 1 := (rfl)
theorem prT_cons {g : Grammar} {w : List Int} {x : Int} {l : List Int} {i e : Nat} {es : List Nat} : prT g w (x :: l) i (e :: es) = trees g w x i e * prT g w l e es := (rfl)
def sumL {α : Type} (f : α → Nat) : List α → Nat
  | [] => 0
  | x :: l => f x + sumL f l
theorem sumL_app {α : Type} {f : α → Nat} : ∀ {a b : List α}, sumL f (a ++ b) = sumL f a + sumL f b
  | [], b => by simp [sumL]
  | x :: a, b => by simp only [List.cons_append, sumL, sumL_app]; omega
theorem sumL_map {α β : Type} {f : β → Nat} {h : α → β} : ∀ {a : List α}, sumL f (a.map h) = sumL (fun x => f (h x)) a
  | [] => rfl
  | x :: a => by simp only [List.map_cons, sumL, sumL_map]
theorem sumL_mul {α : Type} {f : α → Nat} {c : Nat} : ∀ {a : List α}, sumL (fun x => c * f x) a = c * sumL f a
  | [] => by simp [sumL]
  | x :: a => by simp only [sumL, sumL_mul, Nat.mul_add]
theorem sumL_congr {α : Type} {f h : α → Nat} : ∀ {a : List α}, (∀ x, x ∈ a → f x = h x) → sumL f a = sumL h a
  | [], _ => rfl
  | x :: a, hh => by rw [sumL, sumL, hh x (by simp), sumL_congr fun y hy => hh y (by simp [hy])]
theorem sumL_flat {α β : Type} {f : β → Nat} {h : α → List β} : ∀ {a : List α}, sumL f (a.flatMap h) = sumL (fun x => sumL f (h x)) a
  | [] => rfl
  | x :: a => by rw [List.flatMap_cons, sumL_app, sumL, sumL_flat]
theorem sumL_range {f : Nat → Nat} : ∀ {n : Nat}, sumL f (List.range n) = nsum f n
  | 0 => rfl
  | n + 1 => by rw [List.range_succ, sumL_app, sumL_range, sumL, sumL]; rfl
theorem sumL_take {α : Type} {f : α → Nat} {l : List α} {c : Nat} {d : α} (h : c < l.length) : sumL f (l.take c) + f (l.getD c d) ≤ sumL f l := by
  have e : l = l.take c ++ l.getD c d :: l.drop (c + 1) := by
    conv => lhs; rw [← List.take_append_drop c l, List.drop_eq_getElem_cons h]
    simp [List.getD, h]
  conv => rhs; rw [e]
  rw [sumL_app, sumL]; omega
theorem sumL_take_succ {α : Type} {f : α → Nat} {l : List α} {c : Nat} {d : α} (h : c < l.length) : sumL f (l.take (c + 1)) = sumL f (l.take c) + f (l.getD c d) := by
  rw [List.take_add_one, sumL_app, List.getElem?_eq_getElem h]
  simp [sumL, List.getD, h]
theorem nsum_shift {f : Nat → Nat} {a : Nat} : ∀ {b : Nat}, a ≤ b → tsum f a b = nsum (fun q => f (a + q)) (b - a)
  | 0, h => by have : a = 0 := by omega
               subst this; rfl
  | b + 1, h => by
    by_cases e : a = b + 1
    · subst e; rw [tsum_empty (Nat.le_refl _), Nat.sub_self]; rfl
    · rw [tsum_succ (by omega), nsum_shift (b := b) (by omega), show b + 1 - a = (b - a) + 1 by omega]
      show _ = nsum _ (b - a) + f (a + (b - a))
      rw [show a + (b - a) = b by omega]
theorem cut_sum {g : Grammar} {w : List Int} : ∀ (l : List Int) (i j : Nat), l ≠ [] → sumL (prT g w l i) (cutN (l.length - 1) i j) = rowN g w l i j
  | [], _, _, h => absurd rfl h
  | [x], i, j, _ => by simp [cutN, sumL, prT, rowN_one]
  | x :: y :: l, i, j, _ => by
    rw [rowN_two]
    show sumL _ (cutN (l.length + 1) i j) = _
    unfold cutN
    rw [sumL_flat, sumL_range]
    have key : ∀ q, sumL (prT g w (x :: y :: l) i) ((cutN l.length (i + 1 + q) j).map fun r => (i + 1 + q) :: r) = trees g w x i (i + 1 + q) * rowN g w (y :: l) (i + 1 + q) j := fun q => by
      rw [sumL_map, ← cut_sum (y :: l) (i + 1 + q) j (by simp), ← sumL_mul]
      exact sumL_congr fun r _ => prT_cons
    rw [nsum_ext (fun q _ => key q)]
    by_cases h : i + 1 ≤ j
    · rw [nsum_shift h]
    · rw [show j - (i + 1) = 0 by omega, tsum_empty (by omega)]; rfl
def rlB (g : Grammar) (w : List Int) (x : Int) (i j q : Nat) : Nat := nsum (ruleV g w x i j) q
inductive Tk (g : Grammar) (w : List Int) : List Int → Nat → List Nat → List Int → Nat → Prop
  | nil (i : Nat) : Tk g w [] i [] [] 0
  | sym {x : Int} {l : List Int} {i : Nat} {es : List Nat} {st : List Int} {K : Nat} (hx : x < g.k) (hw : w.getD i 0 = x) (h : Tk g w l (i + 1) es st K) : Tk g w (x :: l) i ((i + 1) :: es) st K
  | name {x : Int} {l : List Int} {i e : Nat} {es : List Nat} {q c : Nat} {s1 s2 : List Int} {K1 K2 : Nat} (hx : ¬ x < g.k) (hq : RuleAt g x q) (hc : c < (cutN ((g.rules.getD q default).right.length - 1) i e).length)
      (h1 : Tk g w (g.rules.getD q default).right i ((cutN ((g.rules.getD q default).right.length - 1) i e).getD c []) s1 K1) (h2 : Tk g w l e es s2 K2) :
      Tk g w (x :: l) i (e :: es) ((q : Int) :: s1 ++ s2) ((rlB g w x i e q + sumL (prT g w (g.rules.getD q default).right i) ((cutN ((g.rules.getD q default).right.length - 1) i e).take c) + K1) * prT g w l e es + K2)
theorem rule_row {g : Grammar} {w : List Int} {x : Int} {q i j : Nat} (hq : RuleAt g x q) : ruleV g w x i j q = rowN g w (g.rules.getD q default).right i j := by
  unfold ruleV
  have := hq.2.2
  rw [Int.toNat_natCast] at this
  rw [if_pos this]
theorem rlB_row {g : Grammar} {w : List Int} (hp : Proper g) {x : Int} {q i j : Nat} (hx : ¬ x < g.k) (hq : RuleAt g x q) : rlB g w x i j q + rowN g w (g.rules.getD q default).right i j ≤ trees g w x i j := by
  rw [trees_name hp hx, ← rule_row hq]
  exact nsum_mono (f := ruleV g w x i j) (n := q + 1) (by have := hq.2.1; omega)
theorem right_ne {g : Grammar} (hp : Proper g) {q : Nat} (hq : q < g.rules.length) : (g.rules.getD q default).right ≠ [] := (hp _ (getD_mem' (l := g.rules) (i := q) hq)).1
theorem rule_lt {g : Grammar} {x : Int} {q : Nat} (hq : RuleAt g x q) : q < g.rules.length := by have := hq.2.1; omega
theorem Tk.lt {g : Grammar} {w : List Int} (hp : Proper g) {l : List Int} {i : Nat} {es : List Nat} {st : List Int} {K : Nat} (h : Tk g w l i es st K) : K < prT g w l i es := by
  induction h with
  | nil => exact Nat.one_pos
  | @sym x l i es st K hx hw h ih =>
    rw [prT_cons, trees_sym hx, symV, if_pos ⟨rfl, hw⟩, Nat.one_mul]; exact ih
  | @name x l i e es q c s1 s2 K1 K2 hx hq hc h1 h2 ih1 ih2 =>
    have hr := cut_sum (g := g) (w := w) _ i e (right_ne hp (rule_lt hq))
    have h3 := sumL_take (f := prT g w (g.rules.getD q default).right i) (d := []) hc
    have h4 := rlB_row hp (w := w) (i := i) (j := e) hx hq
    rw [prT_cons]
    have h5 : rlB g w x i e q + sumL (prT g w (g.rules.getD q default).right i) ((cutN ((g.rules.getD q default).right.length - 1) i e).take c) + K1 + 1 ≤ trees g w x i e := by omega
    refine Nat.lt_of_lt_of_le ?_ (Nat.mul_le_mul_right _ h5)
    rw [Nat.succ_mul]; omega
theorem Tk.cons {g : Grammar} {w : List Int} {x : Int} {l : List Int} {i e : Nat} {es : List Nat} {s1 s2 : List Int} {n K : Nat} (h1 : Tk g w [x] i [e] s1 n) (h2 : Tk g w l e es s2 K) : Tk g w (x :: l) i (e :: es) (s1 ++ s2) (n * prT g w l e es + K) := by
  cases h1 with
  | sym hx hw h =>
    cases h with
    | nil => rw [Nat.zero_mul, Nat.zero_add]; exact .sym hx hw h2
  | @name _ _ _ _ _ q c t1 t2 K1 K2 hx hq hc h3 h4 =>
    cases h4 with
    | nil =>
      rw [List.append_nil]
      have := Tk.name hx hq hc h3 h2
      rw [show prT g w [] e [] = 1 from rfl, Nat.mul_one, Nat.add_zero]
      exact this
theorem Tk.len {g : Grammar} {w : List Int} {l : List Int} {i : Nat} {es : List Nat} {st : List Int} {K : Nat} (h : Tk g w l i es st K) : es.length = l.length := by
  induction h with
  | nil => rfl
  | sym _ _ _ ih => simp [ih]
  | name _ _ _ _ _ _ ih2 => simp [ih2]
theorem Tk.det {g : Grammar} {w : List Int} {l : List Int} {i : Nat} {es : List Nat} {st : List Int} {K : Nat} (h : Tk g w l i es st K) : ∀ {es' : List Nat} {st' r r' : List Int} {K' : Nat}, Tk g w l i es' st' K' → st ++ r = st' ++ r' → st = st' ∧ es = es' ∧ K = K' ∧ r = r' := by
  induction h with
  | nil =>
    intro es' st' r r' K' h' e
    cases h' with
    | nil => exact ⟨rfl, rfl, rfl, e⟩
  | sym hx hw h ih =>
    intro es' st' r r' K' h' e
    cases h' with
    | sym _ _ h2 => obtain ⟨e1, e2, e3, e4⟩ := ih h2 e; exact ⟨e1, by rw [e2], e3, e4⟩
    | name hn => exact absurd hx hn
  | @name x l i e es q c s1 s2 K1 K2 hx hq hc h1 h2 ih1 ih2 =>
    intro es' st' r r' K' h' he
    cases h' with
    | sym hn => exact absurd hn hx
    | @name _ _ _ e' es' q' c' t1 t2 L1 L2 hx' hq' hc' k1 k2 =>
      simp only [List.cons_append, List.append_assoc, List.cons.injEq, Int.natCast_inj] at he
      obtain ⟨rfl, he⟩ := he
      obtain ⟨e1, e2, e3, e4⟩ := ih1 k1 he
      have l1 := cutN_last (getD_cut hc)
      have l2 := cutN_last (getD_cut hc')
      rw [e2, l2] at l1
      have hee : e' = e := by simpa using l1
      subst hee
      have hcc := cutN_inj hc hc' e2
      subst hcc
      obtain ⟨f1, f2, f3, f4⟩ := ih2 k2 e4
      exact ⟨by rw [e1, f1], by rw [f2], by rw [e3, f2, f3], f4⟩
end Go.Dm

set_option linter.unusedSimpArgs false
set_option linter.unusedVariables false
namespace Go.Dm
open Go.RowKit
section
variable {P : Program} {ops : Array Oper} {m : Nat}
structure PreOk (ops : Array Oper) (m : Nat) : Prop where
  size : ops.size = m + 2
  nod : ∀ o, o ∈ ops.toList → ∀ c, o.op ≠ .defer c
  gua : ∀ o, o ∈ ops.toList → o.guard = none
  back : ∀ i k, i < m + 2 → wt ops i k = true → k < i
  up : ∀ i, i < m → ∃ j, i < j ∧ j ≤ m ∧ wt ops j i = true
  top : wt ops (m + 1) m = true
def preB (ops : Array Oper) (m : Nat) : Bool :=
  decide (ops.size = m + 2) && ops.toList.all (fun o => (match o.op with | .defer _ => false | _ => true) && o.guard.isNone) &&
  (List.range (m + 2)).all (fun i => match ops[i]? with | some o => o.after.toList.all fun e => !Region.binds .any e || decide (e.on < i) | none => true) &&
  (List.range m).all (fun i => (List.range (m + 1)).any fun j => decide (i < j) && wt ops j i) && wt ops (m + 1) m
theorem preB_ok (h : preB ops m = true) : PreOk ops m := by
  simp only [preB, Bool.and_eq_true, decide_eq_true_eq, List.all_eq_true] at h
  obtain ⟨⟨⟨⟨h1, h2⟩, h3⟩, h4⟩, h5⟩ := h
  refine ⟨h1, fun o ho c e => ?_, fun o ho => by simpa using (h2 o ho).2, fun i k hi hw => ?_, fun i hi => ?_, h5⟩
  · have := (h2 o ho).1
    rw [e] at this; cases this
  · have hk := h3 i (List.mem_range.2 hi)
    unfold wt at hw
    split at hw
    · next oj hj =>
      rw [hj] at hk
      simp only [List.all_eq_true] at hk
      obtain ⟨e, he, hb⟩ := Array.any_eq_true'.1 hw
      simp only [Bool.and_eq_true, beq_iff_eq] at hb
      have := hk e (by simpa using he)
      simp only [hb.1, Bool.not_true, Bool.false_or, decide_eq_true_eq] at this
      rw [← hb.2]; exact this
    · cases hw
  · have := h4 i (List.mem_range.2 hi)
    simp only [List.any_eq_true, List.mem_range, Bool.and_eq_true, decide_eq_true_eq] at this
    obtain ⟨j, h1, h2, h3⟩ := this
    exact ⟨j, h2, by omega, h3⟩
theorem take_get {i : Nat} (h : i < m) (hs : ops.size = m + 2) : (ops.take m)[i]? = ops[i]? := by
  simp only [Array.take_eq_extract, Array.getElem?_extract]
  rw [if_pos (by omega), Nat.zero_add]
theorem pre_all (hp : PreOk ops m) {listed : Array Bool} (hc : Closed ops listed) (hm : Rdy ops listed m) : ∀ n i, m - i ≤ n → i < m → listed.getD i false = true
  | 0, i, h, hi => by omega
  | n + 1, i, h, hi => by
    obtain ⟨j, h1, h2, h3⟩ := hp.up i hi
    by_cases e : j = m
    · subst e; exact hm i h3
    · exact hc.rdy j (pre_all hp hc hm n j (by omega) (by omega)) i h3
theorem set_getB {l : Array Bool} {i j : Nat} {d : Bool} (h : i < l.size) : (l.setIfInBounds i true).getD j d = if i = j then true else l.getD j d := by
  simp only [Array.getD_eq_getD_getElem?, Array.getElem?_setIfInBounds]
  by_cases e : i = j
  · subst e; simp [h]
  · rw [if_neg e, if_neg e]
theorem wt_pre {i k : Nat} (hi : i < m) (hs : ops.size = m + 2) : wt (ops.take m) i k = wt ops i k := by
  unfold wt; rw [take_get hi hs]
theorem rdy_ready {listed : Array Bool} {i : Nat} (hi : i < ops.size) (h0 : listed.getD i true = false) (h : Rdy ops listed i) : i ∈ Region.ready .any ops listed := by
  obtain ⟨o, ho⟩ : ∃ o, ops[i]? = some o := ⟨ops[i], Array.getElem?_eq_getElem hi⟩
  exact mem_ready.2 ⟨h0, o, ho, fun e he hb => h e.on ((wt_spec ho).2 ⟨e, he, hb, rfl⟩)⟩
theorem ready_rdy {listed : Array Bool} {i : Nat} (h : i ∈ Region.ready .any ops listed) : i < ops.size ∧ listed.getD i true = false ∧ Rdy ops listed i := by
  obtain ⟨h0, o, ho, ha⟩ := mem_ready.1 h
  refine ⟨(Array.getElem?_eq_some_iff.1 ho).1, h0, fun k hk => ?_⟩
  obtain ⟨e, he, hb, rfl⟩ := (wt_spec ho).1 hk
  exact ha e he hb
theorem Closed.set (hp : PreOk ops m) {listed : Array Bool} (hc : Closed ops listed) {i : Nat} (hi : i < ops.size) (hr : Rdy ops listed i) : Closed ops (listed.setIfInBounds i true) := by
  have hi' : i < listed.size := by rw [hc.size]; exact hi
  refine ⟨by simp [hc.size], fun k hk j hj => ?_⟩
  rw [set_getB hi'] at hk ⊢
  by_cases e : i = j
  · rw [if_pos e]
  · rw [if_neg e]
    by_cases e2 : i = k
    · subst e2; exact hr j hj
    · rw [if_neg e2] at hk; exact hc.rdy k hk j hj
theorem getB_eq {l : Array Bool} {i : Nat} (h : i < l.size) : l.getD i true = l.getD i false := by simp [Array.getD, h]
theorem wanted_noneY {o : Oper} {y : Nat → Option Bool} (h : o.guard = none) : Region.wanted o y = true := by unfold Region.wanted; rw [h]
theorem any_pre (hp : PreOk ops m) {Q Q' : Exit → Act → World → Prop} (hQ : ¬ LetsOut Q') (hpan : ∀ c a w, Q' (.panic c) a w → Q (.panic c) a w)
    (hrest : ∀ a w, Q' .normal a w → wpOpIn (FR none) 0 P ops Q m (wpOpIn (FR none) 0 P ops Q (m + 1) (fun a w => Q .normal a w)) a w) :
    ∀ (fuel : Nat) (listed lp : Array Bool) (a : Act) (w : World), Closed ops listed → lp.size = m → (∀ i, i < m → lp.getD i false = listed.getD i false) → listed.getD m false = false → listed.getD (m + 1) false = false →
      wpAny P .any (ops.take m) Q' fuel lp a w → wpAnyIn (FR none) 0 P .any ops Q (fuel + 2) listed a w := by
  have hsz := hp.size
  have htk : (ops.take m).size = m := by simp [hsz]
  -- m is about to come: all others have come
  have last : ∀ (listed lp : Array Bool) (a : Act) (w : World), Closed ops listed → lp.size = m → (∀ i, i < m → lp.getD i false = listed.getD i false) → (∀ i, i < m → listed.getD i false = true) → listed.getD m false = false → listed.getD (m + 1) false = false →
      Q' .normal a w → ∀ g, wpAnyIn (FR none) 0 P .any ops Q (g + 2) listed a w := by
    intro listed lp a w hc hls hl hall hm hm1 hq g
    have hls' : listed.size = m + 2 := by rw [hc.size, hsz]
    have hrm : Rdy ops listed m := fun k hk => hall k (hp.back m k (by omega) hk)
    have hin : ∀ i, i ∈ Region.ready .any ops listed → i = m := fun i hi => by
      obtain ⟨h1, h2, h3⟩ := ready_rdy hi
      rw [getB_eq (by omega)] at h2
      by_cases e : i < m
      · rw [hall i e] at h2; cases h2
      · by_cases e2 : i = m
        · exact e2
        · have : i = m + 1 := by omega
          subst this
          have := h3 m hp.top
          rw [hm] at this; cases this
    have hmr : m ∈ Region.ready .any ops listed := rdy_ready (by omega) (by rw [getB_eq (by omega)]; exact hm) hrm
    refine ⟨fun h => (by rw [h] at hmr; cases hmr), fun i hi => ?_⟩
    rw [hin i hi]
    refine wpOpIn_mono (fun a' w' h' => ?_) (hrest a w hq)
    have hm' : m < listed.size := by omega
    have hin2 : ∀ i, i ∈ Region.ready .any ops (listed.setIfInBounds m true) → i = m + 1 := fun i hi => by
      obtain ⟨h1, h2, h3⟩ := ready_rdy hi
      rw [set_getB hm'] at h2
      by_cases e : m = i
      · rw [if_pos e] at h2; cases h2
      · rw [if_neg e, getB_eq (by omega)] at h2
        by_cases e2 : i < m
        · rw [hall i e2] at h2; cases h2
        · omega
    have hr1 : Rdy ops (listed.setIfInBounds m true) (m + 1) := fun k hk => by
      have := hp.back (m + 1) k (by omega) hk
      rw [set_getB hm']
      by_cases e : m = k
      · rw [if_pos e]
      · rw [if_neg e]; exact hall k (by omega)
    have hmr2 : (m + 1) ∈ Region.ready .any ops (listed.setIfInBounds m true) := rdy_ready (by omega) (by rw [set_getB hm', if_neg (by omega), getB_eq (by omega)]; exact hm1) hr1
    refine ⟨fun h => (by rw [h] at hmr2; cases hmr2), fun i hi => ?_⟩
    rw [hin2 i hi]
    refine wpOpIn_mono (fun a2 w2 h2 => ?_) h'
    refine wpAnyIn_done ?_ h2 g
    apply List.eq_nil_iff_forall_not_mem.2
    intro i hi
    obtain ⟨h1, h3, h4⟩ := ready_rdy hi
    rw [set_getB (by simp; omega), set_getB hm'] at h3
    by_cases e : m + 1 = i
    · rw [if_pos e] at h3; cases h3
    · rw [if_neg e] at h3
      by_cases e2 : m = i
      · rw [if_pos e2] at h3; cases h3
      · rw [if_neg e2, getB_eq (by omega), hall i (by omega)] at h3; cases h3
  intro fuel
  induction fuel with
  | zero =>
    intro listed lp a w hc hls hl hm hm1 h
    obtain ⟨h0, hq⟩ := h
    have hall : ∀ i, i < m → listed.getD i false = true := by
      intro i
      induction i using Nat.strongRecOn with
      | _ i ih =>
        intro hi
        cases hb : listed.getD i false with
        | true => rfl
        | false =>
          have : i ∈ Region.ready .any (ops.take m) lp := rdy_ready (by omega) (by rw [getB_eq (by omega), hl i hi]; exact hb) fun k hk => by
            rw [wt_pre hi hsz] at hk
            have := hp.back i k (by omega) hk
            rw [hl k (by omega)]; exact ih k this (by omega)
          rw [h0] at this; cases this
    exact last listed lp a w hc hls hl hall hm hm1 hq 0
  | succ fuel ih =>
    intro listed lp a w hc hls hl hm hm1 h
    have hls' : listed.size = m + 2 := by rw [hc.size, hsz]
    by_cases hall : ∀ i, i < m → listed.getD i false = true
    · have h0 : Region.ready .any (ops.take m) lp = [] := by
        apply List.eq_nil_iff_forall_not_mem.2
        intro i hi
        obtain ⟨h1, h2, h3⟩ := ready_rdy hi
        rw [getB_eq (by omega), hl i (by omega), hall i (by omega)] at h2; cases h2
      exact last listed lp a w hc hls hl hall hm hm1 (h.1 h0) _
    · have hnm : ¬ Rdy ops listed m := fun hr => hall fun i hi => pre_all hp hc hr m i (by omega) hi
      have hne : ∃ i, i ∈ Region.ready .any ops listed := by
        have : ∃ i, i < m ∧ listed.getD i false = false := by
          apply Classical.byContradiction
          intro hn
          refine hall fun i hi => ?_
          cases hb : listed.getD i false with
          | true => rfl
          | false => exact absurd ⟨i, hi, hb⟩ hn
        obtain ⟨i, hi, hb⟩ := this
        have least : ∀ n i, i ≤ n → i < m → listed.getD i false = false → ∃ j, j ∈ Region.ready .any ops listed := by
          intro n
          induction n with
          | zero =>
            intro i hin hi hb
            refine ⟨i, rdy_ready (by omega) (by rw [getB_eq (by omega)]; exact hb) fun k hk => ?_⟩
            have := hp.back i k (by omega) hk
            omega
          | succ n ihn =>
            intro i hin hi hb
            by_cases hx : ∃ k, wt ops i k = true ∧ listed.getD k false = false
            · obtain ⟨k, hk, hkb⟩ := hx
              have := hp.back i k (by omega) hk
              exact ihn k (by omega) (by omega) hkb
            · refine ⟨i, rdy_ready (by omega) (by rw [getB_eq (by omega)]; exact hb) fun k hk => ?_⟩
              cases hkb : listed.getD k false with
              | true => rfl
              | false => exact absurd ⟨k, hk, hkb⟩ hx
        exact least i i (Nat.le_refl _) hi hb
      refine ⟨fun h0 => (by obtain ⟨i, hi⟩ := hne; rw [h0] at hi; cases hi), fun i hi => ?_⟩
      obtain ⟨h1, h2, h3⟩ := ready_rdy hi
      have him : i < m := by
        by_cases e : i = m
        · subst e; exact absurd h3 hnm
        · by_cases e2 : i = m + 1
          · subst e2
            have := h3 m hp.top
            rw [hm] at this; cases this
          · omega
      have hir : i ∈ Region.ready .any (ops.take m) lp := rdy_ready (by omega) (by rw [getB_eq (by omega), hl i him, ← getB_eq (by omega)]; exact h2) fun k hk => by
        rw [wt_pre him hsz] at hk
        rw [hl k (by have := hp.back i k (by omega) hk; omega)]; exact h3 k hk
      have hst := h.2 i hir
      have hnext : ∀ a' w', wpAny P .any (ops.take m) Q' fuel (lp.setIfInBounds i true) a' w' → wpAnyIn (FR none) 0 P .any ops Q (fuel + 2) (listed.setIfInBounds i true) a' w' := fun a' w' h' => by
        refine ih (listed.setIfInBounds i true) (lp.setIfInBounds i true) a' w' (hc.set hp h1 h3) (by simp [hls]) (fun j hj => ?_) ?_ ?_ h'
        · rw [set_getB (by omega), set_getB (by omega), hl j hj]
        · rw [set_getB (by omega), if_neg (by omega)]; exact hm
        · rw [set_getB (by omega), if_neg (by omega)]; exact hm1
      unfold wpOp at hst
      unfold wpOpIn
      rw [take_get him hsz] at hst
      obtain ⟨o, ho⟩ : ∃ o, ops[i]? = some o := ⟨ops[i], Array.getElem?_eq_getElem h1⟩
      have hmem : o ∈ ops.toList := by simpa using Array.mem_of_getElem? ho
      rw [ho] at hst ⊢
      dsimp only at hst ⊢
      rw [if_pos (wanted_noneY (hp.gua o hmem))] at hst ⊢
      have := op_in (r := none) (hp.nod o hmem) hQ (hst.imp (Oper.wp_mono hnext) id)
      unfold Oper.wpIn at this ⊢
      refine ⟨this.1, ?_⟩
      have h2 := this.2
      generalize (o.semAt (FR none).round a.eval).run P w = r at h2 ⊢
      cases r with
      | ok x w' =>
        cases x <;> simp only [Oper.uponIn] at h2 ⊢ <;>
          first
            | exact h2
            | exact ⟨h2.1, CallsIn.mono h2.2 (fun e w'' he => by cases e <;> first | exact he | exact hpan _ _ _ he | exact absurd he hQ)⟩
            | exact ⟨h2.1, RowsIn.mono h2.2 (fun _ _ he => he)⟩
            | exact ⟨h2.1, RoundIn.mono h2.2 (fun e w'' he => by cases e <;> first | exact he | exact hpan _ _ _ he | exact absurd he hQ)⟩
      | halt x w' =>
        cases x <;> simp only [Oper.uponIn] at h2 ⊢ <;> first | exact h2 | exact hpan _ _ _ h2
theorem region_pre {id : Nat} (hmix : P.follows .mixedOrders = true) (hB : preB ops m = true) {Q Q' : Exit → Act → World → Prop} (hQ : ¬ LetsOut Q') (hpan : ∀ c a w, Q' (.panic c) a w → Q (.panic c) a w)
    (hrest : ∀ a w, Q' .normal a w → wpOpIn (FR none) 0 P ops Q m (wpOpIn (FR none) 0 P ops Q (m + 1) (fun a w => Q .normal a w)) a w) {a : Act} {w : World} (h : RegA P (ops.take m) true Q' a w) : (Code.region id ops true).wpIn (FR none) 0 P Q a w := by
  have hp := preB_ok hB
  have hsz := hp.size
  have hg : ∀ n i : Nat, (Array.replicate n false).getD i false = false := fun n i => by
    simp only [Array.getD_eq_getD_getElem?, Array.getElem?_replicate]; split <;> rfl
  have htk : (ops.take m).size = m := by simp [hsz]
  refine wpIn_region_any hmix ?_
  rw [hsz]
  unfold RegA at h
  rw [if_pos rfl, htk] at h
  exact any_pre hp hQ hpan hrest m _ _ _ _ ⟨by simp [hsz], fun k hk => by rw [hg] at hk; cases hk⟩ (by simp) (fun i _ => by rw [hg, hg]) (hg _ _) (hg _ _) h
theorem put_def {a : Act} {d : Option Nat} {v : Value} : (a.put d v).defers = a.defers := by cases d <;> rfl
theorem eop_def {pu ld gr : Nat → Bool} {i : Nat} {K : Act → World → Prop} {ds : List Deferred} {a : Act} {w : World} (hd : a.defers = ds) (h : eOp P ops pu ld gr i K a w) : eOp P ops pu ld gr i (fun a' w' => K a' w' ∧ a'.defers = ds) a w := by
  unfold eOp at *
  split
  · next e => rw [e] at h; exact h
  · next o e =>
    rw [e] at h
    simp only at h
    split
    · next hw =>
      rw [if_pos hw] at h
      split
      · next hp =>
        rw [if_pos hp] at h
        obtain ⟨v, h1, h2⟩ := h
        exact ⟨v, h1, h2, by rw [put_def]; exact hd⟩
      · next hp =>
        rw [if_neg hp] at h
        exact h.mono fun u w' hk => ⟨⟨hk.1, by rw [put_def]; exact hd⟩, hk.2⟩
    · next hw =>
      rw [if_neg hw] at h
      exact ⟨h, by rw [put_def]; exact hd⟩
theorem eop_mono {pu ld gr : Nat → Bool} {i : Nat} {K K' : Act → World → Prop} (hk : ∀ a w, K a w → K' a w) {a : Act} {w : World} (h : eOp P ops pu ld gr i K a w) : eOp P ops pu ld gr i K' a w := by
  unfold eOp at *
  split
  · next e => rw [e] at h; exact h
  · next o e =>
    rw [e] at h
    simp only at h
    split
    · next hw =>
      rw [if_pos hw] at h
      split
      · next hp =>
        rw [if_pos hp] at h
        obtain ⟨v, h1, h2⟩ := h
        exact ⟨v, h1, hk _ _ h2⟩
      · next hp =>
        rw [if_neg hp] at h
        exact h.mono fun u w' h' => ⟨hk _ _ h'.1, h'.2⟩
    · next hw =>
      rw [if_neg hw] at h
      exact hk _ _ h
theorem et_def {pu ld gr : Nat → Bool} {K : Act → World → Prop} {ds : List Deferred} : ∀ (t : IT) (a : Act) (w : World), a.defers = ds → ET P ops pu ld gr K t a w → ET P ops pu ld gr (fun a' w' => K a' w' ∧ a'.defers = ds) t a w
  | .done, a, w, hd, h => ⟨h, hd⟩
  | .op i t, a, w, hd, h => eop_mono (fun a' w' h' => et_def t a' w' h'.2 h'.1) (eop_def hd h)
  | .alt t u, a, w, hd, h => ⟨et_def t a w hd h.1, et_def u a w hd h.2⟩
theorem et_mono {pu ld gr : Nat → Bool} {K K' : Act → World → Prop} (hk : ∀ a w, K a w → K' a w) : ∀ (t : IT) (a : Act) (w : World), ET P ops pu ld gr K t a w → ET P ops pu ld gr K' t a w
  | .done, a, w, h => hk a w h
  | .op i t, a, w, h => eop_mono (fun a' w' h' => et_mono hk t a' w' h') h
  | .alt t u, a, w, h => ⟨et_mono hk t a w h.1, et_mono hk u a w h.2⟩
theorem region_treeD {G : Gh} {l : List Op1} (tp : Bool) (hmix : P.follows .mixedOrders = true) (hl : ops.toList.mapM (cOp P G.nt ops.toList) = some l) (hF : Free G (asgOps l)) {K : S → Prop} {s : S} {a : Act} {w : World}
    (hv : vcT P (treeT ops (if tp then l.map Op1.toP else l)) K s) (hs : SR G s a w) : RegA P ops true (fun e a' w' => e = .normal ∧ (∃ s', K s' ∧ SR G s' a' w') ∧ a'.defers = a.defers) a w := by
  have hb1 : Below w.heap.size w { w with drawn := w.drawn + 1 } := ⟨rfl, rfl, rfl, Nat.le_refl _, fun _ _ => rfl⟩
  have hs1 : SR G s a { w with drawn := w.drawn + 1 } := let ⟨A, β, γ, g⟩ := hs; ⟨A, β, γ, g.world hb1⟩
  obtain ⟨l', hl'⟩ : ∃ l', l' = (if tp then l.map Op1.toP else l) := ⟨_, rfl⟩
  rw [← hl'] at hv
  unfold treeT treeC at hv
  simp only at hv
  split at hv
  · next hB =>
    rw [Bool.and_eq_true] at hB
    subst hl'
    refine reg_tree hmix hB.2 (et_mono (K := fun a' w' => (∃ s', K s' ∧ SR G s' a' w') ∧ a'.defers = a.defers) (fun a' w' h => ⟨rfl, h.1, h.2⟩) _ _ _ (et_def _ _ _ rfl ?_))
    refine tree_sound (Q := fun _ a' w' => ∃ s', K s' ∧ SR G s' a' w') (.tp tp l) hl hF (fun i h => ?_) (fun i h => ?_) (fun s' a' w' hk hs' => ⟨s', hk, hs'⟩) _ s a _ hv hs1
    · rw [Bool.and_eq_true] at h; exact h.1
    · unfold grF2 at h; rw [Bool.or_eq_true] at h; exact h
  · exact hv.elim
def Gf (nt : Nat) (w : World) (R : Nat → Prop) (ts : List Nat) (a : Act) : Gh := ⟨{ w0 := w, A0 := R, O0 := fun _ => False, n0 := 0, β0 := fun _ => none, F := fun _ => False }, nt, fun t y => t ∉ ts ∧ y = ⟨fun _ => none, fun _ => False, .v (a.tmps.getD t undef)⟩, []⟩
def S.fr (ups : List (Nat × D)) : S := { ρ := fun t => (look t ups).getD .junk, M := fun _ => none, N := 0 }
def frD : Option D → D
  | some d => d
  | none => .junk
theorem frD_some {d : D} : frD (some d) = d := (rfl)
theorem frD_none : frD none = .junk := (rfl)
theorem fr_ρ {ups : List (Nat × D)} {t : Nat} : (S.fr ups).ρ t = frD (look t ups) := by show (look t ups).getD .junk = _; cases look t ups <;> rfl
theorem fr_M {ups : List (Nat × D)} {τ : Nat} : (S.fr ups).M τ = none := (rfl)
theorem fr_N {ups : List (Nat × D)} : (S.fr ups).N = 0 := (rfl)
theorem fr_gr {nt : Nat} {w : World} {R : Nat → Prop} {ts : List Nat} {a : Act} {ups : List (Nat × D)} (hR : ∀ b, R b → b < w.heap.size) (ha : a.tmps.size = nt) (hd : a.defers = []) (hu : ∀ p, p ∈ ups → CR w R p.2 (a.tmps.getD p.1 undef)) : GR (Gf nt w R ts a) (S.fr ups) a w R (fun _ => none) (fun _ => none) := by
  refine ⟨ha, ⟨⟨[], by rw [hd]; rfl, List.nodup_nil, fun _ h => (by cases h), fun _ h => (by cases h)⟩, fun _ h => (by cases h)⟩, ⟨Bel.refl _ _, fun _ h => h, fun _ h => .inl h, hR, fun τ ob h => absurd h (Nat.not_lt_zero _), fun b τ π h => (by cases h), fun τ b h => absurd h (Nat.not_lt_zero _), Nat.le_refl _, fun _ h => h.elim, fun _ h => h.elim⟩, fun t => ?_, fun t y hy => ?_⟩
  · show DR w R _ 0 ((look t ups).getD .junk) _
    cases hl : look t ups with
    | none => exact DR.junk
    | some d => exact .cl _ _ (hu _ (look_mem hl))
  · obtain ⟨_, rfl⟩ := hy
    exact .cl _ _ (.v _)
theorem put_get {a : Act} {d : Nat} {v : Value} {t : Nat} (h : d < a.tmps.size) : (a.put (some d) v).tmps.getD t undef = if d = t then v else a.tmps.getD t undef := by
  show (a.tmps.setIfInBounds d v).getD t undef = _
  simp only [Array.getD_eq_getD_getElem?, Array.getElem?_setIfInBounds]
  by_cases e : d = t
  · subst e; simp [h]
  · rw [if_neg e, if_neg e]
def putF (f : Nat → Value) (ts : List Nat) (a : Act) : Act := ts.foldl (fun a t => a.put (some t) (f t)) a
theorem putF_get {f : Nat → Value} {n : Nat} : ∀ {ts : List Nat} {a : Act}, a.tmps.size = n → (∀ t, t ∈ ts → t < n) → (putF f ts a).tmps.size = n ∧ (putF f ts a).defers = a.defers ∧ ∀ t, (putF f ts a).tmps.getD t undef = if t ∈ ts then f t else a.tmps.getD t undef
  | [], a, hn, _ => ⟨hn, rfl, fun t => by simp [putF]⟩
  | x :: ts, a, hn, ht => by
    have hx : x < a.tmps.size := by rw [hn]; exact ht x (by simp)
    obtain ⟨h1, h2, h3⟩ := putF_get (f := f) (ts := ts) (a := a.put (some x) (f x)) (by show (a.tmps.setIfInBounds x (f x)).size = n; simpa using hn) fun t h => ht t (by simp [h])
    refine ⟨h1, h2.trans put_def, fun t => ?_⟩
    show (putF f ts (a.put (some x) (f x))).tmps.getD t undef = _
    rw [h3, put_get hx]
    by_cases e : t ∈ ts
    · rw [if_pos e, if_pos (by simp [e])]
    · rw [if_neg e]
      by_cases e2 : x = t
      · subst e2; rw [if_pos rfl, if_pos (by simp)]
      · rw [if_neg e2, if_neg (by simp [e, Ne.symm e2])]
theorem putF_eq {a a' : Act} {ts : List Nat} {n : Nat} (hn : a.tmps.size = n) (hn' : a'.tmps.size = n) (hd : a'.defers = a.defers) (ht : ∀ t, t ∈ ts → t < n) (h : ∀ t, t ∉ ts → a'.tmps.getD t undef = a.tmps.getD t undef) : a' = putF (fun t => a'.tmps.getD t undef) ts a := by
  obtain ⟨h1, h2, h3⟩ := putF_get (f := fun t => a'.tmps.getD t undef) (ts := ts) hn ht
  have e1 : a'.tmps = (putF (fun t => a'.tmps.getD t undef) ts a).tmps := by
    apply Array.ext
    · rw [hn', h1]
    · intro i hi hi'
      have := h3 i
      rw [Array.getD, dif_pos hi'] at this
      have e2 : a'.tmps.getD i undef = a'.tmps[i] := by rw [Array.getD, dif_pos hi]; rfl
      have e3 : (putF (fun t => a'.tmps.getD t undef) ts a).tmps[i] = if i ∈ ts then a'.tmps.getD i undef else a.tmps.getD i undef := this
      rw [e3]
      by_cases e : i ∈ ts
      · rw [if_pos e, e2]
      · rw [if_neg e, ← h i e, e2]
  have e4 := hd.trans h2.symm
  cases a' with
  | mk tm df =>
    generalize putF _ ts a = x at e1 e4 ⊢
    cases x
    simp only at e1 e4
    rw [e1, e4]
theorem yield_region {m nt : Nat} {l : List Op1} {ts : List Nat} {ups : List (Nat × D)} {X : Type} {outs : X → List (Nat × D)} {Inv : X → Prop} {id : Nat} {Q : Exit → Act → World → Prop} {a : Act} {w : World} {R : Nat → Prop} (hmix : P.follows .mixedOrders = true) (hB : preB ops m = true)
    (hl : (ops.take m).toList.mapM (cOp P nt (ops.take m).toList) = some l) (hts : (asgOps l).all (fun t => decide (t < nt) && ts.contains t) = true) (htn : ts.all (fun t => decide (t < nt)) = true)
    {ms : X → List (Nat × Ob)} {n : Nat} (hv : vcT P (treeT (ops.take m) (l.map Op1.toP)) (cutK outs ms Inv n) (S.fr ups))
    (hR : ∀ b, R b → b < w.heap.size) (ha : a.tmps.size = nt) (hd : a.defers = []) (hu : ∀ p, p ∈ ups → CR w R p.2 (a.tmps.getD p.1 undef))
    (hrest : ∀ (x : X) (f : Nat → Value) (w' : World) (s2 : S) (A : Nat → Prop) (β : Nat → Option Nat) (γ : Nat → Option (Nat × List Nat)), Inv x → GR (Gf nt w R ts a) s2 (putF f ts a) w' A β γ → (putF f ts a).defers = [] → Fits s2 (outs x) (ms x) →
      wpOpIn (FR none) 0 P ops Q m (wpOpIn (FR none) 0 P ops Q (m + 1) (fun a w => Q .normal a w)) (putF f ts a) w') : (Code.region id ops true).wpIn (FR none) 0 P Q a w := by
  have hF : Free (Gf nt w R ts a) (asgOps l) := fun t ht => by
    have := List.all_eq_true.1 hts t ht
    simp only [Bool.and_eq_true, decide_eq_true_eq] at this
    exact ⟨this.1, fun y hy => hy.1 (by simpa using this.2)⟩
  have htn' : ∀ t, t ∈ ts → t < nt := fun t ht => by simpa using List.all_eq_true.1 htn t ht
  have hreg := region_treeD (G := Gf nt w R ts a) true hmix hl hF (s := S.fr ups) (a := a) (w := w) (K := cutK outs ms Inv n) (by simpa using hv) ⟨R, _, _, fr_gr hR ha hd hu⟩
  refine region_pre hmix hB (Q' := fun e a' w' => e = .normal ∧ (∃ s', cutK outs ms Inv n s' ∧ SR (Gf nt w R ts a) s' a' w') ∧ a'.defers = a.defers) (fun h => ?_) (fun c a w h => (by cases h.1)) (fun a' w' h => ?_) hreg
  · obtain ⟨a2, w2, h2⟩ := h
    cases h2.1
  · obtain ⟨_, ⟨s', ⟨s2, hg, hn, x, hx, hfit⟩, A0, β0, γ0, g0⟩, hdef⟩ := h
    obtain ⟨A, β, γ, g⟩ := hg.sound g0
    have g3 := g.trim hn (Nat.zero_le _)
    have hkeep : ∀ t, t ∉ ts → a'.tmps.getD t undef = a.tmps.getD t undef := fun t ht => kr_v (g3.keep t _ ⟨ht, rfl⟩)
    have hsz : a'.tmps.size = nt := g3.size
    rw [putF_eq ha hsz hdef htn' hkeep] at g3 ⊢
    exact hrest x _ w' _ A β γ hx g3 ((putF_get ha htn').2.1.trans hd) hfit
theorem new_cr {G : Gh} {s0 : S} {a : Act} {w : World} {A : Nat → Prop} {β : Nat → Option Nat} {γ : Nat → Option (Nat × List Nat)} {τ sz off n : Nat} {ob : Ob} {x : Value} (g0 : GR G s0 a w A β γ) (hO : ∀ b, ¬ G.g.O0 b) (hM : s0.M τ = some ob) (hp : ob.pl = true) (hτ : τ < s0.N) (hd : DR w A β s0.N (.ref τ sz off n) x) :
    CR w (fun b => G.g.w0.heap.size ≤ b ∧ b < w.heap.size) (viewO (some ob) sz off n) x := by
  have H' := g0.hr
  let s : S := ⟨fun _ => .junk, fun σ => if σ = τ then some ob else none, s0.N⟩
  let G1 : Gh := ⟨{ w0 := w, A0 := fun _ => False, O0 := fun _ => True, n0 := 0, β0 := fun _ => none, F := fun _ => False }, 0, fun _ _ => False, []⟩
  have hsm : s.M τ = some ob := by simp [s]
  have hd0 : DR w (fun _ => False) β s.N (.ref τ sz off n) x := by
    cases hd with
    | cl d x h' => cases h'
    | ref τ sz off n c b arr T h1 hb hc hh hr => exact .ref τ sz off n c b arr T h1 hb hc hh hr
    | refz τ sz off b h1 => exact .refz τ sz off b h1
  have g : HR G1.g w (fun _ => False) β γ s.N s.M := by
    refine ⟨Bel.refl _ _, fun _ h => h, fun _ h => h.elim, fun _ h => h.elim, fun σ ob' h1 h2 => ?_, fun b σ π h1 h2 h3 => ?_, fun σ b h1 h2 h3 => ?_, Nat.zero_le _, fun _ h => h.elim, fun _ h => h.elim⟩
    · have e : σ = τ := by
        by_cases e : σ = τ
        · exact e
        · simp [s, e] at h2
      subst e
      rw [hsm] at h2; cases h2
      exact or_pl (H'.objs σ ob hτ hM) hp
    · have e : σ = τ := by
        by_cases e : σ = τ
        · exact e
        · simp [s, e] at h3
      subst e
      exact ⟨(H'.own b σ π h1 hτ (by rw [hM]; simp)).1, fun h => h, .inr trivial, (H'.own b σ π h1 hτ (by rw [hM]; simp)).2.2.2⟩
    · have e : σ = τ := by
        by_cases e : σ = τ
        · exact e
        · simp [s, e] at h2
      subst e
      exact H'.root σ b hτ (by rw [hM]; simp) h3
  have := ref_cr (G := G1) (s := s) (γ := γ) g (A' := fun b => G.g.w0.heap.size ≤ b ∧ b < w.heap.size) (fun _ h => h.elim) (fun b π h1 _ => by
    obtain ⟨q1, _, q3, _⟩ := H'.own b τ π h1 hτ (by rw [hM]; simp)
    exact ⟨q3.resolve_right (hO b), q1⟩) hd0
  rw [hsm] at this
  exact this
theorem value_opIn {i : Nat} {o : Oper} {Q : Exit → Act → World → Prop} {K : Act → World → Prop} {a : Act} {w : World} {u : Value} (ho : ops[i]? = some o) (hg : o.guard = none) (hnd : ∀ c, o.op ≠ .defer c) (hr : (execOp a.eval o).run P w = .ok (.value u) w) (hK : K (a.put o.dst u) w) : wpOpIn (FR none) 0 P ops Q i K a w := by
  unfold wpOpIn
  rw [ho]
  simp only [wanted_noneY hg, if_true]
  unfold Oper.wpIn
  refine ⟨fun _ _ => trivial, ?_⟩
  rw [Oper.semAt_eq _ _ _ hnd, hr]
  exact hK
theorem yield_opIn {i x y l : Nat} {o : Oper} {ats : Array TypeId} {Q : Exit → Act → World → Prop} {K : Act → World → Prop} {a : Act} {w : World} {R : Ending → World → Prop} (ho : ops[i]? = some o) (hg : o.guard = none) (hop : o.op = .call ⟨.value (.tmp x), #[.tmp y], ats⟩) (hx : a.tmps.getD x undef = .func (.yield l) #[] #[])
    (hY : YieldAt Fence.wide 0 P l #[a.tmps.getD y undef] w R) (hR : ∀ e w', R e w' → ∃ u, e = .returned u ∧ K (a.put o.dst u) w') : wpOpIn (FR none) 0 P ops Q i K a w := by
  obtain ⟨fn, tmps, asg, bd, hy, hrd⟩ := hY
  unfold wpOpIn
  rw [ho]
  simp only [wanted_noneY hg, if_true]
  unfold Oper.wpIn
  refine ⟨fun _ _ => trivial, ?_⟩
  rw [Oper.semAt_eq _ _ _ (fun c e => by rw [hop] at e; cases e)]
  have e1 : a.eval (.tmp x) = .func (.yield l) #[] #[] := hx
  have e2 : (#[Operand.tmp y].map a.eval : Array Value) = #[a.tmps.getD y undef] := by simp [Act.eval]
  have hrun : (execOp a.eval o).run P w = .ok (.round l fn tmps asg bd) w := by
    simp only [execOp, hop, resolve, e1, e2, Deferred.ofValue, invoke, Array.empty_append, Sem.run_bind, Sem.run_pure, Result.andThen_ok]
    exact hy
  rw [hrun]
  refine ⟨fun h => (by cases h), RoundIn.mono hrd fun e w' he => ?_⟩
  obtain ⟨u, rfl, hk⟩ := hR e w' he
  exact hk
theorem callv_opIn {i x y f : Nat} {o : Oper} {ats : Array TypeId} {cs : Array Value} {Q : Exit → Act → World → Prop} {K : Act → World → Prop} {a : Act} {w : World} {R : Ending → World → Prop} (ho : ops[i]? = some o) (hg : o.guard = none) (hop : o.op = .call ⟨.value (.tmp x), #[.tmp y], ats⟩) (hx : a.tmps.getD x undef = .func (.func f) #[] cs)
    (hf : ∀ args w, (callFunc f args).run P w = .ok (.enter f args) w) (hC : CallsIn Fence.wide 0 P f (#[a.tmps.getD y undef] ++ cs) w R) (hR : ∀ e w', R e w' → ∃ u, e = .returned u ∧ K (a.put o.dst u) w') : wpOpIn (FR none) 0 P ops Q i K a w := by
  unfold wpOpIn
  rw [ho]
  simp only [wanted_noneY hg, if_true]
  unfold Oper.wpIn
  refine ⟨fun _ _ => trivial, ?_⟩
  rw [Oper.semAt_eq _ _ _ (fun c e => by rw [hop] at e; cases e)]
  have e1 : a.eval (.tmp x) = .func (.func f) #[] cs := hx
  have e2 : (#[Operand.tmp y].map a.eval : Array Value) = #[a.tmps.getD y undef] := by simp [Act.eval]
  have hrun : (execOp a.eval o).run P w = .ok (.enter f (#[a.tmps.getD y undef] ++ cs)) w := by
    simp only [execOp, hop, resolve, e1, e2, Deferred.ofValue, invoke, Array.empty_append, Sem.run_bind, Sem.run_pure, Result.andThen_ok]
    exact hf _ _
  rw [hrun]
  refine ⟨fun h => (by cases h), CallsIn.mono hC fun e w' he => ?_⟩
  obtain ⟨u, rfl, hk⟩ := hR e w' he
  exact hk
end
end Go.Dm

namespace Go.Proofs.Ytjekkbpdgnohcaa
open Go.RowKit Go.Shelf Go.Dm
set_option linter.unusedSimpArgs false
set_option linter.unnecessarySimpa false
set_option linter.unusedVariables false
attribute [local go_sem] Oper.semAt_some
theorem callFunc_ok {P : Program} {f : FuncId} {fn : Func} (hf : P.funcs[f]? = some fn) (hb : fn.body.isSome = true) (hn : (fn.name == "runtime.NumGoroutine") = false) (args : Array Value) (w : World) : (callFunc f args).run P w = .ok (.enter f args) w := by
  have hb' : fn.body.isNone = false := by cases hx : fn.body <;> simp_all
  simp only [callFunc, Sem.run_bind, Sem.run_pure, Result.andThen_ok, run_program, hf]
  simp [hn, hb']
theorem i64s_cells {w : World} {A : Nat → Prop} {l : List Int} {u : Value} (h : CR w A (.sl 1 (i64s l)) u) : (l = [] ∧ ∃ b c, u = .slice b 0 c) ∨ ∃ b off c, u = .slice (some ⟨b, off, none⟩) l.length c ∧ A b ∧ ∀ j, j < l.length → w.cell? ⟨b, off + j, none⟩ = some (.int .i64 (l.getD j 0)) := by
  generalize hes : i64s l = es at h
  have hlen : es.length = l.length := by rw [← hes]; simp [i64s]
  cases h with
  | sl0 sz b c => left; exact ⟨List.eq_nil_of_length_eq_zero hlen.symm, b, c, rfl⟩
  | sl sz es b off n c us hA hn hcap hs hc hr =>
    right
    refine ⟨b, off, c, by rw [← hlen, hn], hA, fun j hj => ?_⟩
    have h1 := (hc j 0 (by omega) (by omega)).1
    have h2 := hr j 0 (by omega) (by omega)
    have e : (es.getD j []).getD 0 .junk = .v (.int .i64 (l.getD j 0)) := by rw [← hes]; simp [i64s, List.getD, hj]
    rw [e] at h2
    generalize us j 0 = v at h1 h2
    cases h2
    rw [Nat.mul_one, Nat.add_zero] at h1
    exact h1
end Go.Proofs.Ytjekkbpdgnohcaa

namespace Go.Proofs.Ytjekkbpdgnohcaa
open Go.Dm
set_option linter.unusedSimpArgs false
set_option linter.unnecessarySimpa false
set_option linter.unusedVariables false
set_option maxRecDepth 10000 in
set_option maxHeartbeats 4000000 in
theorem clone_int (l : List (Int)) (h : l.length ≤ 1000000) : Dm.SpecH Try.prog 57 [.sl 1 (i64s l)] [] (fun d o => d = .ref 1 1 0 l.length ∧ o = [none, some ⟨1, i64s l, true, false, .arr⟩]) := by
  refine specH_of_vc mixed Try.func57 c57 (by rw [show Try.f57.ntmps = _ from Try.ntmps57]; simp) ?_
  unfold m57 r57
  repeat' first | ((first | refine Br.dec ?_ ?_ | refine Br.eqi ?_ ?_) <;> intro h <;> try (exfalso; omega)) | (simp (disch := first | omega | (simp only [vlen]; first | done | omega)) only [↓vAq, vBq, ↓reduceIte, Nat.reduceBEq, Nat.reduceEqDiff, Nat.reduceLT, Nat.reduceLeDiff, Nat.reduceAdd, Nat.reduceMul, Nat.reduceSub, reduceCtorEq, Int.reduceToNat]) | (refine Br.mk ?_ ?_ <;> intro h) | (refine BrN.mk (fun h => ?_) ?_) | (refine AltVC.mk ?_ ?_)
  · have : l = [] := List.eq_nil_of_length_eq_zero (by assumption)
    subst this
    exact finH_mk [none, some ⟨1, [], true, false, .arr⟩] (by simp) (by simp (disch := first | omega | (simp only [vlen]; first | done | omega)) only [↓vAq, vBq, ↓reduceIte, Nat.reduceBEq, Nat.reduceEqDiff, Nat.reduceLT, Nat.reduceLeDiff, Nat.reduceAdd, Nat.reduceMul, Nat.reduceSub, reduceCtorEq, Int.reduceToNat]) (by simp (disch := first | omega | (simp only [vlen]; first | done | omega)) only [↓vAq, vBq, ↓reduceIte, Nat.reduceBEq, Nat.reduceEqDiff, Nat.reduceLT, Nat.reduceLeDiff, Nat.reduceAdd, Nat.reduceMul, Nat.reduceSub, reduceCtorEq, Int.reduceToNat]) ⟨by simp (disch := first | omega | (simp only [vlen]; first | done | omega)) only [↓vAq, vBq, ↓reduceIte, Nat.reduceBEq, Nat.reduceEqDiff, Nat.reduceLT, Nat.reduceLeDiff, Nat.reduceAdd, Nat.reduceMul, Nat.reduceSub, reduceCtorEq, Int.reduceToNat], rfl⟩
  · exact finH_mk [none, some ⟨1, i64s l, true, false, .arr⟩] (by simp) (by simp (disch := first | omega | (simp only [vlen]; first | done | omega)) only [↓vAq, vBq, ↓reduceIte, Nat.reduceBEq, Nat.reduceEqDiff, Nat.reduceLT, Nat.reduceLeDiff, Nat.reduceAdd, Nat.reduceMul, Nat.reduceSub, reduceCtorEq, Int.reduceToNat]) (by simp (disch := first | omega | (simp only [vlen]; first | done | omega)) only [↓vAq, vBq, ↓reduceIte, Nat.reduceBEq, Nat.reduceEqDiff, Nat.reduceLT, Nat.reduceLeDiff, Nat.reduceAdd, Nat.reduceMul, Nat.reduceSub, reduceCtorEq, Int.reduceToNat]) ⟨by simp (disch := first | omega | (simp only [vlen]; first | done | omega)) only [↓vAq, vBq, ↓reduceIte, Nat.reduceBEq, Nat.reduceEqDiff, Nat.reduceLT, Nat.reduceLeDiff, Nat.reduceAdd, Nat.reduceMul, Nat.reduceSub, reduceCtorEq, Int.reduceToNat], rfl⟩
end Go.Proofs.Ytjekkbpdgnohcaa
