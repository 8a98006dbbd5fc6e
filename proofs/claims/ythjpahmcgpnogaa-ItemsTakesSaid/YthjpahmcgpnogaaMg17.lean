/-
 Texts of this claim, one behind another.
-/
import Derived.Test.YthjpahmcgpnogaaMg13
import Derived.Test.YthjpahmcgpnogaaRefTab
import Derived.Test.YthjpahmcgpnogaaMg15
namespace Go.Proofs.Ythjpahmcgpnogaa
open Go.Dm
set_option linter.unusedSimpArgs false
set_option linter.unnecessarySimpa false
set_option linter.unusedVariables false
set_option linter.defProp false
theorem ov_one {g : Grammar} {w : List Int} {t : Nat → Nat → Nat → Bool} {x : Int} {i j : Nat} (h : i ≤ j) : ovB g w t [x] i j = oneB g w t x i j := by
  rw [Bool.eq_iff_iff, ovB_cons]
  constructor
  · rintro ⟨m, h1, h2, h3, h4⟩
    have : m = j := by simpa [ovB] using h4
    subst this; exact h3
  · intro h3; exact ⟨j, h, Nat.le_refl _, h3, by simp [ovB]⟩
theorem tab_bit {g : Grammar} {w : List Int} {T : Nat → Nat → Nat → Bool} (h : ∀ l i j, i ≤ w.length → (ovB g w T l i j = true ↔ Der g w l i j)) {a i j : Nat} (hi : i ≤ j) (hj : j ≤ w.length) : T a i j = true ↔ Der g w [g.k + a] i j := by
  rw [← h [g.k + a] i j (by omega), ov_one hi]
  unfold oneB
  rw [if_neg (by omega), show (g.k + (a : Int) - g.k).toNat = a by omega]
set_option maxRecDepth 10000 in
set_option maxHeartbeats 4000000 in
theorem takesW_spec (g : Grammar) (w : List Int) (hc : CV g w) : Dm.Spec Try.prog 37 [.ag (graD g), .sl 1 (i64s w)] (fun d => ∃ b, d = .v (.bool b) ∧ (b = true ↔ Der g w [g.k + g.start] 0 w.length)) := by
  refine spec_of_vc mixed Try.func37 c37 (by rw [show Try.f37.ntmps = _ from Try.ntmps37]; simp) ?_
  unfold m37 r37
  have hk := hc.v.k
  have hn := hc.v.n
  have hst := hc.v.start
  have hwl := hc.w
  obtain ⟨N, hN⟩ : ∃ N : Nat, g.n = N := ⟨g.n.toNat, by omega⟩
  obtain ⟨st, hste⟩ : ∃ st : Nat, g.start = st := ⟨g.start.toNat, by omega⟩
  repeat' first | ((first | refine Br.dec ?_ ?_ | refine Br.eqi ?_ ?_) <;> intro h <;> try (exfalso; omega)) | (simp (disch := first | omega | (simp only [vlen]; first | done | omega)) only [vct, ↓vAq, vBq, ↓reduceIte, Nat.reduceBEq, Nat.reduceEqDiff, Nat.reduceLT, Nat.reduceLeDiff, Nat.reduceAdd, Nat.reduceMul, Nat.reduceSub, reduceCtorEq, Int.reduceToNat]) | (refine Br.mk ?_ ?_ <;> intro h) | (refine BrN.mk (fun h => ?_) ?_) | (refine AltVC.mk ?_ ?_)
  refine CallP.mk (table_spec g w hc N (w.length + 1) hN rfl) ?_
  rintro _ ⟨T, rfl, hT⟩
  refine ⟨by simp, ?_⟩
  have hb := tab_bit hT (a := st) (Nat.zero_le _) (Nat.le_refl w.length)
  rw [← hste] at hb
  have hbl := @tbb_len (w.length + 1) (fun j => T st 0 j)
  repeat' first | ((first | refine Br.dec ?_ ?_ | refine Br.eqi ?_ ?_) <;> intro h <;> try (exfalso; omega)) | (simp (disch := first | omega | (simp only [vlen]; first | done | omega)) only [vct, hste, ↓vAq, vBq, ↓reduceIte, Nat.reduceBEq, Nat.reduceEqDiff, Nat.reduceLT, Nat.reduceLeDiff, Nat.reduceAdd, Nat.reduceMul, Nat.reduceSub, reduceCtorEq, Int.reduceToNat]) | (refine Br.mk ?_ ?_ <;> intro h) | (refine BrN.mk (fun h => ?_) ?_) | (refine AltVC.mk ?_ ?_)
  exact fin_mk ⟨T st 0 w.length, rfl, by rw [← hste]; exact hb⟩
end Go.Proofs.Ythjpahmcgpnogaa

namespace Go.Proofs.Ythjpahmcgpnogaa
open Go.Dm
set_option linter.unusedSimpArgs false
set_option linter.unnecessarySimpa false
set_option linter.unusedVariables false
set_option linter.defProp false
set_option maxRecDepth 10000 in
set_option maxHeartbeats 4000000 in
theorem tidxE_spec (g : Grammar) (S : List (List It)) (H : List (List Ha)) (k : Nat) (hk : (S.getD k default).length = 0) : Dm.SpecH Try.prog 83 [.ref 3 3 0 (S.getD k default).length, .clo 63 [.ptr 4 1 0 0, .ptr 5 4 0 0]] (chT g S H k .arr) (fun d o => d = iv .i64 (-1) ∧ o = (chT g S H k .arr).map some) := by
  refine specH_of_vc mixed Try.func83 c83 (by rw [show Try.f83.ntmps = _ from Try.ntmps83]; simp) ?_
  unfold m83 r83
  unfold chT
  repeat' first | ((first | refine Br.dec ?_ ?_ | refine Br.eqi ?_ ?_) <;> intro h <;> try (exfalso; omega)) | (simp (disch := first | omega | (simp only [vlen]; first | done | omega)) only [vit, ↓vAq, vBq, ↓reduceIte, Nat.reduceBEq, Nat.reduceEqDiff, Nat.reduceLT, Nat.reduceLeDiff, Nat.reduceAdd, Nat.reduceMul, Nat.reduceSub, reduceCtorEq, Int.reduceToNat]) | (refine Br.mk ?_ ?_ <;> intro h) | (refine BrN.mk (fun h => ?_) ?_) | (refine AltVC.mk ?_ ?_)
  refine LoopVC.mk (X := Nat) (fun i => [(8, iv .i64 (0 : Nat))]) (fun _ => chU g S H k .arr) (fun i => 0) (fun i => True) 0 trivial ?_ ?_
  · unfold chU
    (simp (disch := first | omega | (simp only [vlen]; first | done | omega)) only [Fits_u, Fits_m, Fits_nil, List.length_append, sr_trims, vit, ↓vAq, vBq, ↓reduceIte, Nat.reduceBEq, Nat.reduceEqDiff, Nat.reduceLT, Nat.reduceLeDiff, Nat.reduceAdd, Nat.reduceMul, Nat.reduceSub, reduceCtorEq, Int.reduceToNat] <;> (repeat' first | rfl | apply And.intro))
    all_goals trace_state
  · intro i _
    unfold chU
    repeat' first | ((first | refine Br.dec ?_ ?_ | refine Br.eqi ?_ ?_) <;> intro h <;> try (exfalso; omega)) | (simp (disch := first | omega | (simp only [vlen]; first | done | omega)) only [sr_rens, vit, ↓vAq, vBq, ↓reduceIte, Nat.reduceBEq, Nat.reduceEqDiff, Nat.reduceLT, Nat.reduceLeDiff, Nat.reduceAdd, Nat.reduceMul, Nat.reduceSub, reduceCtorEq, Int.reduceToNat]) | (refine Br.mk ?_ ?_ <;> intro h) | (refine BrN.mk (fun h => ?_) ?_) | (refine AltVC.mk ?_ ?_)
    exact ct_fin (g := g) (S := S) (H := H) (k := k) (kd := .arr) (by simp (disch := first | omega | (simp only [vlen]; first | done | omega)) only [vit, ↓vAq, vBq, ↓reduceIte, Nat.reduceBEq, Nat.reduceEqDiff, Nat.reduceLT, Nat.reduceLeDiff, Nat.reduceAdd, Nat.reduceMul, Nat.reduceSub, reduceCtorEq, Int.reduceToNat]) (by unfold chT; simp (disch := first | omega | (simp only [vlen]; first | done | omega)) only [sr_rens, sr_trims, vit, ↓vAq, vBq, ↓reduceIte, Nat.reduceBEq, Nat.reduceEqDiff, Nat.reduceLT, Nat.reduceLeDiff, Nat.reduceAdd, Nat.reduceMul, Nat.reduceSub, reduceCtorEq, Int.reduceToNat]) ⟨by simp (disch := first | omega | (simp only [vlen]; first | done | omega)) only [vit, ↓vAq, vBq, ↓reduceIte, Nat.reduceBEq, Nat.reduceEqDiff, Nat.reduceLT, Nat.reduceLeDiff, Nat.reduceAdd, Nat.reduceMul, Nat.reduceSub, reduceCtorEq, Int.reduceToNat], rfl⟩
set_option maxRecDepth 10000 in
set_option maxHeartbeats 4000000 in
theorem tconE_spec (g : Grammar) (S : List (List It)) (H : List (List Ha)) (k : Nat) (hk : (S.getD k default).length = 0) : Dm.SpecH Try.prog 62 [.ref 3 3 0 (S.getD k default).length, .clo 63 [.ptr 4 1 0 0, .ptr 5 4 0 0]] (chT g S H k .arr) (fun d o => d = .v (.bool false) ∧ o = (chT g S H k .arr).map some) := by
  refine specH_of_vc mixed Try.func62 c62 (by rw [show Try.f62.ntmps = _ from Try.ntmps62]; simp) ?_
  unfold m62 r62
  have hix := tidxE_spec g S H k hk
  have hdd : decide ((0 : Int) ≤ -1) = false := by decide
  unfold chT
  repeat' first | ((first | refine Br.dec ?_ ?_ | refine Br.eqi ?_ ?_) <;> intro h <;> try (exfalso; omega)) | (simp (disch := first | omega | (simp only [vlen]; first | done | omega)) only [vit, ↓vAq, vBq, ↓reduceIte, Nat.reduceBEq, Nat.reduceEqDiff, Nat.reduceLT, Nat.reduceLeDiff, Nat.reduceAdd, Nat.reduceMul, Nat.reduceSub, reduceCtorEq, Int.reduceToNat]) | (refine Br.mk ?_ ?_ <;> intro h) | (refine BrN.mk (fun h => ?_) ?_) | (refine AltVC.mk ?_ ?_)
  refine CallVC.lendE [0, 1, 2, 3, 4, 5] [.ref 3 3 0 (S.getD k default).length, .clo 63 [.ptr 4 1 0 0, .ptr 5 4 0 0]] (chT g S H k .arr) hix (by simp) (by rfl) (by unfold chT; simp (disch := first | omega | (simp only [vlen]; first | done | omega)) only [vle0, sr_rens, vit, ↓vAq, vBq, ↓reduceIte, Nat.reduceBEq, Nat.reduceEqDiff, Nat.reduceLT, Nat.reduceLeDiff, Nat.reduceAdd, Nat.reduceMul, Nat.reduceSub, reduceCtorEq, Int.reduceToNat] <;> (repeat' first | rfl | apply And.intro)) ?_
  rintro _ _ ⟨rfl, rfl⟩
  unfold chT
  repeat' first | ((first | refine Br.dec ?_ ?_ | refine Br.eqi ?_ ?_) <;> intro h <;> try (exfalso; omega)) | (simp (disch := first | omega | (simp only [vlen]; first | done | omega)) only [sr_rens, vit, ↓vAq, vBq, ↓reduceIte, Nat.reduceBEq, Nat.reduceEqDiff, Nat.reduceLT, Nat.reduceLeDiff, Nat.reduceAdd, Nat.reduceMul, Nat.reduceSub, reduceCtorEq, Int.reduceToNat]) | (refine Br.mk ?_ ?_ <;> intro h) | (refine BrN.mk (fun h => ?_) ?_) | (refine AltVC.mk ?_ ?_)
  exact ct_fin (g := g) (S := S) (H := H) (k := k) (kd := .arr) (by simp (disch := first | omega | (simp only [vlen]; first | done | omega)) only [vit, ↓vAq, vBq, ↓reduceIte, Nat.reduceBEq, Nat.reduceEqDiff, Nat.reduceLT, Nat.reduceLeDiff, Nat.reduceAdd, Nat.reduceMul, Nat.reduceSub, reduceCtorEq, Int.reduceToNat]) (by unfold chT; simp (disch := first | omega | (simp only [vlen]; first | done | omega)) only [sr_rens, sr_trims, vit, ↓vAq, vBq, ↓reduceIte, Nat.reduceBEq, Nat.reduceEqDiff, Nat.reduceLT, Nat.reduceLeDiff, Nat.reduceAdd, Nat.reduceMul, Nat.reduceSub, reduceCtorEq, Int.reduceToNat]) ⟨by simp (disch := first | omega | (simp only [vlen]; first | done | omega)) only [hdd, vit, ↓vAq, vBq, ↓reduceIte, Nat.reduceBEq, Nat.reduceEqDiff, Nat.reduceLT, Nat.reduceLeDiff, Nat.reduceAdd, Nat.reduceMul, Nat.reduceSub, reduceCtorEq, Int.reduceToNat], rfl⟩
theorem ic_of {g : Grammar} {w : List Int} (h : gwC g w = 0) : IC g w ∧ CV g w ∧ GW g w := by
  obtain ⟨h1, h2⟩ := gw_of h
  have hv := valid_of h1
  have hw : w.length ≤ 12 ∧ w.any (badSym g.k) = false := by
    unfold wcode at h2
    split at h2
    · cases h2
    · next h3 =>
      split at h2
      · cases h2
      · next h4 => exact ⟨by omega, by simpa using h4⟩
  refine ⟨⟨hv, hw.1⟩, ⟨hv, hw.1⟩, fun i hi => ?_, fun r hr => (hv.left _ (getD_mem' hr)).1⟩
  have h5 := List.any_eq_false.1 hw.2 _ (getD_mem' (l := w) (i := i) hi)
  have h6 : w.getD i default = w.getD i 0 := rfl
  simp only [badSym, decide_eq_true_eq] at h5
  omega
def TakR (g : Grammar) (w : List Int) (d : D) : Prop := (gwC g w ≠ 0 ∧ d = .tu [.v (.bool false), iv .i64 (gwC g w)]) ∨ (gwC g w = 0 ∧ ∃ b, d = .tu [.v (.bool b), iv .i64 0] ∧ (b = true ↔ Der g w [g.k + g.start] 0 w.length))
set_option maxRecDepth 10000 in
set_option maxHeartbeats 4000000 in
theorem takes_spec (g : Grammar) (hg : g.ok) (w : List Int) (hw : w.length ≤ 9223372036854775807) : Dm.Spec Try.prog 36 [.ag (graD g), .sl 1 (i64s w)] (TakR g w) := by
  refine spec_of_vc mixed Try.func36 c36 (by rw [show Try.f36.ntmps = _ from Try.ntmps36]; simp) ?_
  unfold m36 r36
  have htc := tcheck_spec g hg w hw
  by_cases h0 : gwC g w = 0
  rotate_left
  · repeat' first | ((first | refine Br.dec ?_ ?_ | refine Br.eqi ?_ ?_) <;> intro h <;> try (exfalso; omega)) | (simp (disch := first | omega | (simp only [vlen]; first | done | omega)) only [graD_eq, vit, ↓vAq, vBq, ↓reduceIte, Nat.reduceBEq, Nat.reduceEqDiff, Nat.reduceLT, Nat.reduceLeDiff, Nat.reduceAdd, Nat.reduceMul, Nat.reduceSub, reduceCtorEq, Int.reduceToNat]) | (refine Br.mk ?_ ?_ <;> intro h) | (refine BrN.mk (fun h => ?_) ?_) | (refine AltVC.mk ?_ ?_)
    refine CallVC.eq htc ?_
    repeat' first | ((first | refine Br.dec ?_ ?_ | refine Br.eqi ?_ ?_) <;> intro h <;> try (exfalso; omega)) | (simp (disch := first | omega | (simp only [vlen]; first | done | omega)) only [graD_eq, vit, ↓vAq, vBq, ↓reduceIte, Nat.reduceBEq, Nat.reduceEqDiff, Nat.reduceLT, Nat.reduceLeDiff, Nat.reduceAdd, Nat.reduceMul, Nat.reduceSub, reduceCtorEq, Int.reduceToNat]) | (refine Br.mk ?_ ?_ <;> intro h) | (refine BrN.mk (fun h => ?_) ?_) | (refine AltVC.mk ?_ ?_)
    exact fin_mk (.inl ⟨h0, rfl⟩)
  · obtain ⟨hc, hcv, hgw⟩ := ic_of h0
    rw [h0] at htc
    have hbu := build_spec g w hc
    have hwl := hc.w
    have hst := hc.v.start
    repeat' first | ((first | refine Br.dec ?_ ?_ | refine Br.eqi ?_ ?_) <;> intro h <;> try (exfalso; omega)) | (simp (disch := first | omega | (simp only [vlen]; first | done | omega)) only [graD_eq, vit, ↓vAq, vBq, ↓reduceIte, Nat.reduceBEq, Nat.reduceEqDiff, Nat.reduceLT, Nat.reduceLeDiff, Nat.reduceAdd, Nat.reduceMul, Nat.reduceSub, reduceCtorEq, Int.reduceToNat]) | (refine Br.mk ?_ ?_ <;> intro h) | (refine BrN.mk (fun h => ?_) ?_) | (refine AltVC.mk ?_ ?_)
    refine CallVC.eq htc ?_
    repeat' first | ((first | refine Br.dec ?_ ?_ | refine Br.eqi ?_ ?_) <;> intro h <;> try (exfalso; omega)) | (simp (disch := first | omega | (simp only [vlen]; first | done | omega)) only [graD_eq, vit, ↓vAq, vBq, ↓reduceIte, Nat.reduceBEq, Nat.reduceEqDiff, Nat.reduceLT, Nat.reduceLeDiff, Nat.reduceAdd, Nat.reduceMul, Nat.reduceSub, reduceCtorEq, Int.reduceToNat]) | (refine Br.mk ?_ ?_ <;> intro h) | (refine BrN.mk (fun h => ?_) ?_) | (refine AltVC.mk ?_ ?_)
    refine CallVC.lendE [] [.ag (graD g), .sl 1 (i64s w)] [] hbu (by simp) (by rfl) (by simp (disch := first | omega | (simp only [vlen]; first | done | omega)) only [vle0, graD_eq, vit, ↓vAq, vBq, ↓reduceIte, Nat.reduceBEq, Nat.reduceEqDiff, Nat.reduceLT, Nat.reduceLeDiff, Nat.reduceAdd, Nat.reduceMul, Nat.reduceSub, reduceCtorEq, Int.reduceToNat] <;> (repeat' first | rfl | apply And.intro)) ?_
    rintro _ _ ⟨rfl, S, H, rfl, hS, hC⟩
    have hl := hS.len
    have hany := tak_iff hgw hst.1 hS hC
    have hx : ∀ x, x ∈ S.getD w.length default → x.1 < g.rules.length ∧ x.2.1 ≤ (rgt g x.1).length := fun x hx => by
      have := (hS.ear _ x hx).wi
      exact ⟨this.1, this.2.1⟩
    unfold buO
    repeat' first | ((first | refine Br.dec ?_ ?_ | refine Br.eqi ?_ ?_) <;> intro h <;> try (exfalso; omega)) | (simp (disch := first | omega | (simp only [vlen]; first | done | omega)) only [vit, ↓vAq, vBq, ↓reduceIte, Nat.reduceBEq, Nat.reduceEqDiff, Nat.reduceLT, Nat.reduceLeDiff, Nat.reduceAdd, Nat.reduceMul, Nat.reduceSub, reduceCtorEq, Int.reduceToNat]) | (refine Br.mk ?_ ?_ <;> intro h) | (refine BrN.mk (fun h => ?_) ?_) | (refine AltVC.mk ?_ ?_)
    by_cases hL : (S.getD w.length default).length = 0
    · have he : (S.getD w.length []).any (takB g) = false := by
        have h1 : S.getD w.length [] = [] := List.eq_nil_of_length_eq_zero hL
        rw [h1]; rfl
      rw [he] at hany
      refine CallVC.lendE [3, 2, 4, 6, 5, 0] [.ref 3 3 0 (S.getD w.length default).length, .clo 63 [.ptr 4 1 0 0, .ptr 5 4 0 0]] (chT g S H w.length .arr) (tconE_spec g S H w.length hL) (by simp) (by rfl) (by unfold chT; simp (disch := first | omega | (simp only [vlen]; first | done | omega)) only [vle0, sr_rens, vit, ↓vAq, vBq, ↓reduceIte, Nat.reduceBEq, Nat.reduceEqDiff, Nat.reduceLT, Nat.reduceLeDiff, Nat.reduceAdd, Nat.reduceMul, Nat.reduceSub, reduceCtorEq, Int.reduceToNat] <;> (repeat' first | rfl | apply And.intro)) ?_
      rintro _ _ ⟨rfl, rfl⟩
      unfold chT
      repeat' first | ((first | refine Br.dec ?_ ?_ | refine Br.eqi ?_ ?_) <;> intro h <;> try (exfalso; omega)) | (simp (disch := first | omega | (simp only [vlen]; first | done | omega)) only [sr_rens, vit, ↓vAq, vBq, ↓reduceIte, Nat.reduceBEq, Nat.reduceEqDiff, Nat.reduceLT, Nat.reduceLeDiff, Nat.reduceAdd, Nat.reduceMul, Nat.reduceSub, reduceCtorEq, Int.reduceToNat]) | (refine Br.mk ?_ ?_ <;> intro h) | (refine BrN.mk (fun h => ?_) ?_) | (refine AltVC.mk ?_ ?_)
      exact fin_mk (.inr ⟨h0, false, rfl, hany⟩)
    · refine CallVC.stay 6 ?_
      repeat' first | ((first | refine Br.dec ?_ ?_ | refine Br.eqi ?_ ?_) <;> intro h <;> try (exfalso; omega)) | (simp (disch := first | omega | (simp only [vlen]; first | done | omega)) only [vit, ↓vAq, vBq, ↓reduceIte, Nat.reduceBEq, Nat.reduceEqDiff, Nat.reduceLT, Nat.reduceLeDiff, Nat.reduceAdd, Nat.reduceMul, Nat.reduceSub, reduceCtorEq, Int.reduceToNat]) | (refine Br.mk ?_ ?_ <;> intro h) | (refine BrN.mk (fun h => ?_) ?_) | (refine AltVC.mk ?_ ?_)
      refine CallVC.lendE [3, 2, 4, 6, 5, 0] [.ref 3 3 0 (S.getD w.length default).length, .clo 63 [.ptr 4 1 0 0, .ptr 5 4 0 0]] (chT g S H w.length .fix) (tcon_spec g S H w.length (hc.small hS w.length) hx) (by simp) (by rfl) (by unfold chT; simp (disch := first | omega | (simp only [vlen]; first | done | omega)) only [vle0, sr_rens, vit, ↓vAq, vBq, ↓reduceIte, Nat.reduceBEq, Nat.reduceEqDiff, Nat.reduceLT, Nat.reduceLeDiff, Nat.reduceAdd, Nat.reduceMul, Nat.reduceSub, reduceCtorEq, Int.reduceToNat] <;> (repeat' first | rfl | apply And.intro)) ?_
      rintro _ _ ⟨rfl, rfl⟩
      unfold chT
      repeat' first | ((first | refine Br.dec ?_ ?_ | refine Br.eqi ?_ ?_) <;> intro h <;> try (exfalso; omega)) | (simp (disch := first | omega | (simp only [vlen]; first | done | omega)) only [sr_rens, vit, ↓vAq, vBq, ↓reduceIte, Nat.reduceBEq, Nat.reduceEqDiff, Nat.reduceLT, Nat.reduceLeDiff, Nat.reduceAdd, Nat.reduceMul, Nat.reduceSub, reduceCtorEq, Int.reduceToNat]) | (refine Br.mk ?_ ?_ <;> intro h) | (refine BrN.mk (fun h => ?_) ?_) | (refine AltVC.mk ?_ ?_)
      exact fin_mk (.inr ⟨h0, _, rfl, hany⟩)
set_option maxRecDepth 10000 in
set_option maxHeartbeats 4000000 in
theorem itemsTakes_spec (g : Grammar) (hg : g.ok) (w : List Int) (hw : okL ok64 w) : Dm.Spec Try.prog 12 [.ag (graD g), .sl 1 (i64s w)] (· = .v (.bool true)) := by
  refine spec_of_vc mixed Try.func12 c12 (by rw [show Try.f12.ntmps = _ from Try.ntmps12]; simp) ?_
  unfold m12 r12
  have hwl := maxLen_le hw.1
  have hq := wordOf_spec g hg w hwl
  repeat' first | ((first | refine Br.dec ?_ ?_ | refine Br.eqi ?_ ?_) <;> intro h <;> try (exfalso; omega)) | (simp (disch := first | omega | (simp only [vlen]; first | done | omega)) only [graD_eq, vit, ↓vAq, vBq, ↓reduceIte, Nat.reduceBEq, Nat.reduceEqDiff, Nat.reduceLT, Nat.reduceLeDiff, Nat.reduceAdd, Nat.reduceMul, Nat.reduceSub, reduceCtorEq, Int.reduceToNat]) | (refine Br.mk ?_ ?_ <;> intro h) | (refine BrN.mk (fun h => ?_) ?_) | (refine AltVC.mk ?_ ?_)
  refine CallVC.mk (takes_spec g hg w hwl) ?_
  rintro _ (⟨h0, rfl⟩ | ⟨h0, b, rfl, hb⟩)
  · repeat' first | ((first | refine Br.dec ?_ ?_ | refine Br.eqi ?_ ?_) <;> intro h <;> try (exfalso; omega)) | (simp (disch := first | omega | (simp only [vlen]; first | done | omega)) only [graD_eq, vit, ↓vAq, vBq, ↓reduceIte, Nat.reduceBEq, Nat.reduceEqDiff, Nat.reduceLT, Nat.reduceLeDiff, Nat.reduceAdd, Nat.reduceMul, Nat.reduceSub, reduceCtorEq, Int.reduceToNat]) | (refine Br.mk ?_ ?_ <;> intro h) | (refine BrN.mk (fun h => ?_) ?_) | (refine AltVC.mk ?_ ?_)
    refine CallVC.eq hq ?_
    repeat' first | ((first | refine Br.dec ?_ ?_ | refine Br.eqi ?_ ?_) <;> intro h <;> try (exfalso; omega)) | (simp (disch := first | omega | (simp only [vlen]; first | done | omega)) only [graD_eq, vit, ↓vAq, vBq, ↓reduceIte, Nat.reduceBEq, Nat.reduceEqDiff, Nat.reduceLT, Nat.reduceLeDiff, Nat.reduceAdd, Nat.reduceMul, Nat.reduceSub, reduceCtorEq, Int.reduceToNat]) | (refine Br.mk ?_ ?_ <;> intro h) | (refine BrN.mk (fun h => ?_) ?_) | (refine AltVC.mk ?_ ?_)
    all_goals first | exact fin_mk rfl | trace_state
  · obtain ⟨hc, hcv, hgw⟩ := ic_of h0
    rw [h0] at hq
    repeat' first | ((first | refine Br.dec ?_ ?_ | refine Br.eqi ?_ ?_) <;> intro h <;> try (exfalso; omega)) | (simp (disch := first | omega | (simp only [vlen]; first | done | omega)) only [graD_eq, vit, ↓vAq, vBq, ↓reduceIte, Nat.reduceBEq, Nat.reduceEqDiff, Nat.reduceLT, Nat.reduceLeDiff, Nat.reduceAdd, Nat.reduceMul, Nat.reduceSub, reduceCtorEq, Int.reduceToNat]) | (refine Br.mk ?_ ?_ <;> intro h) | (refine BrN.mk (fun h => ?_) ?_) | (refine AltVC.mk ?_ ?_)
    refine CallVC.eq hq ?_
    repeat' first | ((first | refine Br.dec ?_ ?_ | refine Br.eqi ?_ ?_) <;> intro h <;> try (exfalso; omega)) | (simp (disch := first | omega | (simp only [vlen]; first | done | omega)) only [graD_eq, vit, ↓vAq, vBq, ↓reduceIte, Nat.reduceBEq, Nat.reduceEqDiff, Nat.reduceLT, Nat.reduceLeDiff, Nat.reduceAdd, Nat.reduceMul, Nat.reduceSub, reduceCtorEq, Int.reduceToNat]) | (refine Br.mk ?_ ?_ <;> intro h) | (refine BrN.mk (fun h => ?_) ?_) | (refine AltVC.mk ?_ ?_)
    refine CallVC.mk (takesW_spec g w hcv) ?_
    rintro _ ⟨b2, rfl, hb2⟩
    have e : b = b2 := by rw [Bool.eq_iff_iff, hb, hb2]
    subst e
    repeat' first | ((first | refine Br.dec ?_ ?_ | refine Br.eqi ?_ ?_) <;> intro h <;> try (exfalso; omega)) | (simp (disch := first | omega | (simp only [vlen]; first | done | omega)) only [graD_eq, vit, ↓vAq, vBq, ↓reduceIte, Nat.reduceBEq, Nat.reduceEqDiff, Nat.reduceLT, Nat.reduceLeDiff, Nat.reduceAdd, Nat.reduceMul, Nat.reduceSub, reduceCtorEq, Int.reduceToNat]) | (refine Br.mk ?_ ?_ <;> intro h) | (refine BrN.mk (fun h => ?_) ?_) | (refine AltVC.mk ?_ ?_)
    all_goals first | exact fin_mk rfl | exact fin_mk (vbEq (by simp)) | trace_state
end Go.Proofs.Ythjpahmcgpnogaa
