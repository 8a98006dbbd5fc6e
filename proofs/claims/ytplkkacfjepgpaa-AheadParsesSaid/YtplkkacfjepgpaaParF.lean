/-
  coppicerref.Follows and TakesWord for ahead.Parse.
-/
import Derived.Test.YtplkkacfjepgpaaMakes
import Derived.Test.YtplkkacfjepgpaaFollow
import Derived.Test.YtplkkacfjepgpaaRefTab
import Derived.Test.YtplkkacfjepgpaaInts
set_option linter.unusedVariables false
set_option linter.unusedSimpArgs false
set_option linter.unnecessarySimpa false
namespace Go.Proofs.Ytplkkacfjepgpaa
open Go.Dm
set_option linter.defProp false
theorem ov_one {g : Grammar} {w : List Int} {t : Nat → Nat → Nat → Bool} {x : Int} {i j : Nat} (h : i ≤ j) : ovB g w t [x] i j = oneB g w t x i j := by
  rw [Bool.eq_iff_iff, ovB_cons]
  constructor
  · rintro ⟨m, h1, h2, h3, h4⟩
    have : m = j := by simpa [ovB] using h4
    subst this; exact h3
  · intro h3; exact ⟨j, h, Nat.le_refl _, h3, by simp [ovB]⟩
theorem tab_bit {g : Grammar} {w : List Int} {T : Nat → Nat → Nat → Bool} (h : ∀ l i j, i ≤ w.length → (ovB g w T l i j = true ↔ Der g w l i j)) {a i j : Nat} (hi : i ≤ j) (hj : j ≤ w.length) : T a i j = true ↔ Der g w [g.k + a] i j := by
  rw [← h [g.k + a] i j (by omega), ov_one hi]
  unfold oneB
  rw [if_neg (by omega), show (g.k + (a : Int) - g.k).toNat = a by omega]
set_option maxRecDepth 10000 in
set_option maxHeartbeats 4000000 in
theorem takesWord_spec (g : Grammar) (w : List Int) (hc : CV g w) : Dm.Spec Try.prog 20 [.ag (graD g), .sl 1 (i64s w)] (fun d => ∃ b, d = .v (.bool b) ∧ (b = true ↔ Der g w [g.k + g.start] 0 w.length)) := by
  refine spec_of_vc mixed Try.func20 c20 (by rw [show Try.f20.ntmps = _ from Try.ntmps20]; simp) ?_
  unfold m20 r20
  have hv := hc.v
  have hk := hv.k
  have hn := hv.n
  have hst := hv.start
  have hw12 := hc.w
  obtain ⟨N, hN⟩ : ∃ N : Nat, g.n = N := ⟨g.n.toNat, by omega⟩
  obtain ⟨a, ha⟩ : ∃ a : Nat, g.start = a := ⟨g.start.toNat, by omega⟩
  have haN : a < N := by omega
  repeat' first | ((first | refine Br.dec ?_ ?_ | refine Br.eqi ?_ ?_) <;> intro h <;> try (exfalso; omega)) | (simp (disch := (first | omega | (simp only [vlen]; first | done | omega))) only [vcu, ↓vAq, vBq, ↓reduceIte, Nat.reduceBEq, Nat.reduceEqDiff, Nat.reduceLT, Nat.reduceLeDiff, Nat.reduceAdd, Nat.reduceMul, Nat.reduceSub, reduceCtorEq, Int.reduceToNat]) | (refine Br.mk ?_ ?_ <;> intro h) | (refine BrN.mk (fun h => ?_) ?_) | (refine AltVC.mk ?_ ?_)
  refine CallP.mk (table_spec g w hc N (w.length + 1) hN rfl) ?_
  rintro _ ⟨T, rfl, hT⟩
  refine ⟨fun h => (by cases h), ?_⟩
  have hbl := @tbb_len (w.length + 1) (fun j => T a 0 j)
  have hfin : T a 0 w.length = true ↔ Der g w [g.k + g.start] 0 w.length := by rw [ha]; exact tab_bit hT (Nat.zero_le _) (Nat.le_refl _)
  repeat' first | ((first | refine Br.dec ?_ ?_ | refine Br.eqi ?_ ?_) <;> intro h <;> try (exfalso; omega)) | (simp (disch := (first | omega | (simp only [vlen]; first | done | omega))) only [vcu, ha, ↓vAq, vBq, ↓reduceIte, Nat.reduceBEq, Nat.reduceEqDiff, Nat.reduceLT, Nat.reduceLeDiff, Nat.reduceAdd, Nat.reduceMul, Nat.reduceSub, reduceCtorEq, Int.reduceToNat]) | (refine Br.mk ?_ ?_ <;> intro h) | (refine BrN.mk (fun h => ?_) ?_) | (refine AltVC.mk ?_ ?_)
  exact fin_mk ⟨_, rfl, by rw [← ha]; exact hfin⟩
def stL (g : Grammar) (l : List Int) (p r : Nat) : List Int := l.take p ++ (g.rules.getD r default).right ++ l.drop (p + 1)
def vpf := And.intro @Int.add_sub_cancel @Int.add_sub_cancel
set_option maxRecDepth 10000 in
set_option maxHeartbeats 4000000 in
theorem refStep2_spec (g : Grammar) (hv : Valid g) (l : List Int) (hl : l.length ≤ 1000000) (p r : Nat) (hp : p < l.length) (hr : r < g.rules.length) : Dm.Spec Try.prog 49 [.ag (graD g), .sl 1 (i64s l), iv .i64 p, iv .i64 r] (· = .sl 1 (i64s (stL g l p r))) := by
  refine spec_of_vc mixed Try.func49 c49 (by rw [show Try.f49.ntmps = _ from Try.ntmps49]; simp) ?_
  unfold m49 r49
  have hm : g.rules.getD r default ∈ g.rules := getD_mem' (by omega)
  have hlong := hv.long _ hm
  repeat' first | ((first | refine Br.dec ?_ ?_ | refine Br.eqi ?_ ?_) <;> intro h <;> try (exfalso; omega)) | (simp (disch := (first | omega | (simp only [vlen]; first | done | omega))) only [vpf, ↓vAq, vBq, ↓reduceIte, Nat.reduceBEq, Nat.reduceEqDiff, Nat.reduceLT, Nat.reduceLeDiff, Nat.reduceAdd, Nat.reduceMul, Nat.reduceSub, reduceCtorEq, Int.reduceToNat]) | (refine Br.mk ?_ ?_ <;> intro h) | (refine BrN.mk (fun h => ?_) ?_) | (refine AltVC.mk ?_ ?_)
  refine DrawVC.u ?_
  repeat' first | ((first | refine Br.dec ?_ ?_ | refine Br.eqi ?_ ?_) <;> intro h <;> try (exfalso; omega)) | (simp (disch := (first | omega | (simp only [vlen]; first | done | omega))) only [vpf, ↓vAq, vBq, ↓reduceIte, Nat.reduceBEq, Nat.reduceEqDiff, Nat.reduceLT, Nat.reduceLeDiff, Nat.reduceAdd, Nat.reduceMul, Nat.reduceSub, reduceCtorEq, Int.reduceToNat]) | (refine Br.mk ?_ ?_ <;> intro h) | (refine BrN.mk (fun h => ?_) ?_) | (refine AltVC.mk ?_ ?_)
  all_goals exact fin_mk rfl
theorem cut_at {l : List Int} {p : Nat} (h : p < l.length) : l = l.take p ++ l.getD p 0 :: l.drop (p + 1) := by
  have e : l.drop p = l.getD p 0 :: l.drop (p + 1) := by
    rw [List.drop_eq_getElem_cons h]; simp [List.getD, h]
  rw [← e, List.take_append_drop]
theorem take_terms {g : Grammar} {l : List Int} {p : Nat} (h : ∀ j, j < p → l.getD j 0 < g.k) (hp : p ≤ l.length) : ∀ x, x ∈ l.take p → x < g.k := fun x hx => by
  obtain ⟨j, hj, e⟩ := List.getElem_of_mem hx
  rw [List.length_take] at hj
  have := h j (by omega)
  rw [List.getElem_take] at e
  simp only [List.getD, List.getElem?_eq_getElem (show j < l.length by omega), Option.getD_some] at this
  rw [← e]; exact this
set_option maxRecDepth 10000 in
set_option maxHeartbeats 4000000 in
theorem follows_spec (g : Grammar) (hv : Valid g) (st : List Int) (hs : st.length ≤ 200000) : Dm.Spec Try.prog 21 [.ag (graD g), .sl 1 (i64s st)] (fun d => (∃ l, d = .tu [.sl 1 (i64s l), .v (.bool true)] ∧ l.length ≤ 800001 ∧ ∀ w r, Pr g [g.k + g.start] st w r ↔ Pr g l [] w r) ∨ (d = .tu [.sl 1 [], .v (.bool false)] ∧ ∀ w, ¬ Pr g [g.k + g.start] st w [])) := by
  refine spec_of_vc mixed Try.func21 c21 (by rw [show Try.f21.ntmps = _ from Try.ntmps21]; simp) ?_
  unfold m21 r21
  have hk := hv.k
  have hn := hv.n
  have hst := hv.start
  have hlen := hv.len
  repeat' first | ((first | refine Br.dec ?_ ?_ | refine Br.eqi ?_ ?_) <;> intro h <;> try (exfalso; omega)) | (simp (disch := (first | omega | (simp only [vlen]; first | done | omega))) only [vpf, ↓vAq, vBq, ↓reduceIte, Nat.reduceBEq, Nat.reduceEqDiff, Nat.reduceLT, Nat.reduceLeDiff, Nat.reduceAdd, Nat.reduceMul, Nat.reduceSub, reduceCtorEq, Int.reduceToNat]) | (refine Br.mk ?_ ?_ <;> intro h) | (refine BrN.mk (fun h => ?_) ?_) | (refine AltVC.mk ?_ ?_)
  refine LoopVC.frz 2 ?_
  repeat' first | ((first | refine Br.dec ?_ ?_ | refine Br.eqi ?_ ?_) <;> intro h <;> try (exfalso; omega)) | (simp (disch := (first | omega | (simp only [vlen]; first | done | omega))) only [vpf, ↓vAq, vBq, ↓reduceIte, Nat.reduceBEq, Nat.reduceEqDiff, Nat.reduceLT, Nat.reduceLeDiff, Nat.reduceAdd, Nat.reduceMul, Nat.reduceSub, reduceCtorEq, Int.reduceToNat]) | (refine Br.mk ?_ ?_ <;> intro h) | (refine BrN.mk (fun h => ?_) ?_) | (refine AltVC.mk ?_ ?_)
  refine LoopVC.mk (X := Nat × List Int) (fun x => [(6, .sl 1 (i64s x.2)), (18, iv .i64 x.1)]) (fun x => [(0, ⟨4, [graD g], true, false, .fix⟩)]) (fun x => st.length - x.1) (fun x => x.1 ≤ st.length ∧ x.2.length ≤ 1 + 4 * x.1 ∧ ∀ w r, Pr g [g.k + g.start] st w r ↔ Pr g x.2 (st.drop x.1) w r) (0, [g.k + g.start]) ⟨Nat.zero_le _, by simp, fun w r => Iff.rfl⟩ ?_ ?_
  · (simp (disch := (first | omega | (simp only [vlen]; first | done | omega))) only [Fits_u, Fits_m, Fits_nil, List.length_append, vpf, ↓vAq, vBq, ↓reduceIte, Nat.reduceBEq, Nat.reduceEqDiff, Nat.reduceLT, Nat.reduceLeDiff, Nat.reduceAdd, Nat.reduceMul, Nat.reduceSub, reduceCtorEq, Int.reduceToNat] <;> (repeat' first | rfl | apply And.intro))
    all_goals first | rfl | trace_state
  · rintro ⟨i, l⟩ ⟨hi, hll, hiff⟩
    simp only at hi hll hiff ⊢
    by_cases his : i < st.length
    · have hdr : st.drop i = st.getD i 0 :: st.drop (i + 1) := by
        rw [List.drop_eq_getElem_cons his]; simp [List.getD, his]
      rw [hdr] at hiff
      repeat' first | ((first | refine Br.dec ?_ ?_ | refine Br.eqi ?_ ?_) <;> intro h <;> try (exfalso; omega)) | (simp (disch := (first | omega | (simp only [vlen]; first | done | omega))) only [vpf, ↓vAq, vBq, ↓reduceIte, Nat.reduceBEq, Nat.reduceEqDiff, Nat.reduceLT, Nat.reduceLeDiff, Nat.reduceAdd, Nat.reduceMul, Nat.reduceSub, reduceCtorEq, Int.reduceToNat]) | (refine Br.mk ?_ ?_ <;> intro h) | (refine BrN.mk (fun h => ?_) ?_) | (refine AltVC.mk ?_ ?_)
      refine LoopVC.mk (X := Nat) (fun p => [(9, iv .i64 p)]) (fun p => [(0, ⟨4, [graD g], true, false, .fix⟩)]) (fun p => l.length - p) (fun p => p ≤ l.length ∧ ∀ j, j < p → l.getD j 0 < g.k) 0 ⟨Nat.zero_le _, fun j h => absurd h (Nat.not_lt_zero _)⟩ ?_ ?_
      · (simp (disch := (first | omega | (simp only [vlen]; first | done | omega))) only [Fits_u, Fits_m, Fits_nil, List.length_append, vpf, ↓vAq, vBq, ↓reduceIte, Nat.reduceBEq, Nat.reduceEqDiff, Nat.reduceLT, Nat.reduceLeDiff, Nat.reduceAdd, Nat.reduceMul, Nat.reduceSub, reduceCtorEq, Int.reduceToNat] <;> (repeat' first | rfl | apply And.intro))
      · rintro p ⟨hp, hb⟩
        have htt := take_terms hb hp
        by_cases hpl : p < l.length
        · have hcut := cut_at hpl
          by_cases hx : l.getD p 0 < g.k
          · repeat' first | ((first | refine Br.dec ?_ ?_ | refine Br.eqi ?_ ?_) <;> intro h <;> try (exfalso; omega)) | (simp (disch := (first | omega | (simp only [vlen]; first | done | omega))) only [vpf, ↓vAq, vBq, ↓reduceIte, Nat.reduceBEq, Nat.reduceEqDiff, Nat.reduceLT, Nat.reduceLeDiff, Nat.reduceAdd, Nat.reduceMul, Nat.reduceSub, reduceCtorEq, Int.reduceToNat]) | (refine Br.mk ?_ ?_ <;> intro h) | (refine BrN.mk (fun h => ?_) ?_) | (refine AltVC.mk ?_ ?_)
            exact loopK.mk (p + 1) (by simp (disch := (first | omega | (simp only [vlen]; first | done | omega))) only [↓vAq, vBq, ↓reduceIte, Nat.reduceBEq, Nat.reduceEqDiff, Nat.reduceLT, Nat.reduceLeDiff, Nat.reduceAdd, Nat.reduceMul, Nat.reduceSub, reduceCtorEq, Int.reduceToNat]) ⟨by omega, succ_all hb hx⟩ (by omega) (by (simp (disch := (first | omega | (simp only [vlen]; first | done | omega))) only [Fits_u, Fits_m, Fits_nil, List.length_append, vpf, ↓vAq, vBq, ↓reduceIte, Nat.reduceBEq, Nat.reduceEqDiff, Nat.reduceLT, Nat.reduceLeDiff, Nat.reduceAdd, Nat.reduceMul, Nat.reduceSub, reduceCtorEq, Int.reduceToNat] <;> (repeat' first | rfl | apply And.intro)))
          · have hstep := fun w r => @Pr.step g (l.take p) (l.drop (p + 1)) (st.drop (i + 1)) w r (l.getD p 0) (st.getD i 0) htt hx
            rw [← hcut] at hstep
            have hbad : ¬ RuleAt g (l.getD p 0) (st.getD i 0) → ∀ w, ¬ Pr g [g.k + g.start] st w [] := fun hr w hpr => hr ((hstep w []).mp ((hiff w []).mp hpr)).1
            by_cases hq1 : st.getD i 0 < 0
            · repeat' first | ((first | refine Br.dec ?_ ?_ | refine Br.eqi ?_ ?_) <;> intro h <;> try (exfalso; omega)) | (simp (disch := (first | omega | (simp only [vlen]; first | done | omega))) only [vpf, ↓vAq, vBq, ↓reduceIte, Nat.reduceBEq, Nat.reduceEqDiff, Nat.reduceLT, Nat.reduceLeDiff, Nat.reduceAdd, Nat.reduceMul, Nat.reduceSub, reduceCtorEq, Int.reduceToNat]) | (refine Br.mk ?_ ?_ <;> intro h) | (refine BrN.mk (fun h => ?_) ?_) | (refine AltVC.mk ?_ ?_)
              exact fin_mk (.inr ⟨rfl, hbad fun h => by have := h.1; omega⟩)
            · by_cases hq2 : (g.rules.length : Int) ≤ st.getD i 0
              · repeat' first | ((first | refine Br.dec ?_ ?_ | refine Br.eqi ?_ ?_) <;> intro h <;> try (exfalso; omega)) | (simp (disch := (first | omega | (simp only [vlen]; first | done | omega))) only [vpf, ↓vAq, vBq, ↓reduceIte, Nat.reduceBEq, Nat.reduceEqDiff, Nat.reduceLT, Nat.reduceLeDiff, Nat.reduceAdd, Nat.reduceMul, Nat.reduceSub, reduceCtorEq, Int.reduceToNat]) | (refine Br.mk ?_ ?_ <;> intro h) | (refine BrN.mk (fun h => ?_) ?_) | (refine AltVC.mk ?_ ?_)
                exact fin_mk (.inr ⟨rfl, hbad fun h => by have := h.2.1; omega⟩)
              · obtain ⟨q, hq⟩ : ∃ q : Nat, st.getD i 0 = q := ⟨(st.getD i 0).toNat, by omega⟩
                rw [hq] at hstep hbad hq1 hq2
                have hm : g.rules.getD q default ∈ g.rules := getD_mem' (by omega)
                have hleft := hv.left _ hm
                have hlong := hv.long _ hm
                have hS := refStep2_spec g hv l (by omega) p q hpl (by omega)
                by_cases hq3 : l.getD p 0 = g.k + (g.rules.getD q default).left
                · have hR : RuleAt g (l.getD p 0) q := ⟨by omega, by omega, by rw [Int.toNat_natCast]; omega⟩
                  repeat' first | ((first | refine Br.dec ?_ ?_ | refine Br.eqi ?_ ?_) <;> intro h <;> try (exfalso; omega)) | (simp (disch := (first | omega | (simp only [vlen]; first | done | omega))) only [vpf, hq, ↓vAq, vBq, ↓reduceIte, Nat.reduceBEq, Nat.reduceEqDiff, Nat.reduceLT, Nat.reduceLeDiff, Nat.reduceAdd, Nat.reduceMul, Nat.reduceSub, reduceCtorEq, Int.reduceToNat]) | (refine Br.mk ?_ ?_ <;> intro h) | (refine BrN.mk (fun h => ?_) ?_) | (refine AltVC.mk ?_ ?_)
                  refine CallVC.eq hS ?_
                  repeat' first | ((first | refine Br.dec ?_ ?_ | refine Br.eqi ?_ ?_) <;> intro h <;> try (exfalso; omega)) | (simp (disch := (first | omega | (simp only [vlen]; first | done | omega))) only [vpf, ↓vAq, vBq, ↓reduceIte, Nat.reduceBEq, Nat.reduceEqDiff, Nat.reduceLT, Nat.reduceLeDiff, Nat.reduceAdd, Nat.reduceMul, Nat.reduceSub, reduceCtorEq, Int.reduceToNat]) | (refine Br.mk ?_ ?_ <;> intro h) | (refine BrN.mk (fun h => ?_) ?_) | (refine AltVC.mk ?_ ?_)
                  refine loopK.mk (i + 1, stL g l p q) (by simp (disch := (first | omega | (simp only [vlen]; first | done | omega))) only [↓vAq, vBq, ↓reduceIte, Nat.reduceBEq, Nat.reduceEqDiff, Nat.reduceLT, Nat.reduceLeDiff, Nat.reduceAdd, Nat.reduceMul, Nat.reduceSub, reduceCtorEq, Int.reduceToNat]) ⟨by show i + 1 ≤ st.length; omega, ?_, fun w r => ?_⟩ (by show st.length - (i + 1) < st.length - i; omega) (by (simp (disch := (first | omega | (simp only [vlen]; first | done | omega))) only [Fits_u, Fits_m, Fits_nil, List.length_append, vpf, ↓vAq, vBq, ↓reduceIte, Nat.reduceBEq, Nat.reduceEqDiff, Nat.reduceLT, Nat.reduceLeDiff, Nat.reduceAdd, Nat.reduceMul, Nat.reduceSub, reduceCtorEq, Int.reduceToNat] <;> (repeat' first | rfl | apply And.intro)))
                  · show (stL g l p q).length ≤ 1 + 4 * (i + 1)
                    simp only [stL, List.length_append, List.length_take, List.length_drop]
                    omega
                  · rw [hiff, hq, hstep, Int.toNat_natCast]
                    show (RuleAt g (l.getD p 0) q ∧ _) ↔ Pr g (stL g l p q) _ w r
                    rw [stL, List.append_assoc]
                    exact ⟨fun h => h.2, fun h => ⟨hR, h⟩⟩
                · repeat' first | ((first | refine Br.dec ?_ ?_ | refine Br.eqi ?_ ?_) <;> intro h <;> try (exfalso; omega)) | (simp (disch := (first | omega | (simp only [vlen]; first | done | omega))) only [vpf, hq, ↓vAq, vBq, ↓reduceIte, Nat.reduceBEq, Nat.reduceEqDiff, Nat.reduceLT, Nat.reduceLeDiff, Nat.reduceAdd, Nat.reduceMul, Nat.reduceSub, reduceCtorEq, Int.reduceToNat]) | (refine Br.mk ?_ ?_ <;> intro h) | (refine BrN.mk (fun h => ?_) ?_) | (refine AltVC.mk ?_ ?_)
                  exact fin_mk (.inr ⟨rfl, hbad fun h => hq3 (by have := h.2.2; rw [Int.toNat_natCast] at this; omega)⟩)
        · have hall : l.take p = l := List.take_of_length_le (by omega)
          rw [hall] at htt
          repeat' first | ((first | refine Br.dec ?_ ?_ | refine Br.eqi ?_ ?_) <;> intro h <;> try (exfalso; omega)) | (simp (disch := (first | omega | (simp only [vlen]; first | done | omega))) only [vpf, ↓vAq, vBq, ↓reduceIte, Nat.reduceBEq, Nat.reduceEqDiff, Nat.reduceLT, Nat.reduceLeDiff, Nat.reduceAdd, Nat.reduceMul, Nat.reduceSub, reduceCtorEq, Int.reduceToNat]) | (refine Br.mk ?_ ?_ <;> intro h) | (refine BrN.mk (fun h => ?_) ?_) | (refine AltVC.mk ?_ ?_)
          refine fin_mk (.inr ⟨rfl, fun w hpr => ?_⟩)
          have h1 := (hiff w []).mp hpr
          have h2 := (Pr.terms (st := st.getD i 0 :: st.drop (i + 1)) htt).det h1
          cases h2.2
    · have e : st.drop i = [] := List.drop_eq_nil_of_le (by omega)
      rw [e] at hiff
      repeat' first | ((first | refine Br.dec ?_ ?_ | refine Br.eqi ?_ ?_) <;> intro h <;> try (exfalso; omega)) | (simp (disch := (first | omega | (simp only [vlen]; first | done | omega))) only [vpf, ↓vAq, vBq, ↓reduceIte, Nat.reduceBEq, Nat.reduceEqDiff, Nat.reduceLT, Nat.reduceLeDiff, Nat.reduceAdd, Nat.reduceMul, Nat.reduceSub, reduceCtorEq, Int.reduceToNat]) | (refine Br.mk ?_ ?_ <;> intro h) | (refine BrN.mk (fun h => ?_) ?_) | (refine AltVC.mk ?_ ?_)
      exact fin_mk (.inl ⟨l, rfl, by omega, hiff⟩)
end Go.Proofs.Ytplkkacfjepgpaa
