/-
  ahead.Parse.
-/
import Derived.Test.YtplkkacfjepgpaaLl
import Derived.Test.YtplkkacfjepgpaaTChk
set_option linter.unusedVariables false
set_option linter.unusedSimpArgs false
set_option linter.unnecessarySimpa false
namespace Go.Proofs.Ytplkkacfjepgpaa
open Go.Dm
set_option linter.defProp false
set_option maxRecDepth 10000 in
set_option maxHeartbeats 4000000 in
theorem parse1_spec (g : Grammar) (hv : Valid g) (N : Nat) (hN : N < 2 ^ g.n.toNat) (r : Rule) (hr : r ∈ g.rules) (x c : Int) (hx : 0 ≤ x ∧ x < g.k + g.n) (hc : 0 ≤ c ∧ c ≤ 3) : Dm.Spec Try.prog 46 [.ag (rulD r), .ip [iv .i64 x] 0, .ip (graD g) 0, .ip [.ip (setsD g (fstL g N) (folL g N) N) 0] 0, .ip [iv .i64 c] 0] (· = .v (.bool (decide (r.left = x - g.k) && (lk g N r).testBit c.toNat))) := by
  refine spec_of_vc mixed Try.func46 c46 (by rw [show Try.f46.ntmps = _ from Try.ntmps46]; simp) ?_
  unfold m46 r46
  have hk := hv.k
  have hn := hv.n
  have hl := hv.left r hr
  have hlook := look_spec g hv N hN r hr
  have h15 := p16 (lk_lt (g := g) (N := N) (r := r)) (by omega)
  have hsp := has_spec (lk g N r) c.toNat (by omega) (by omega)
  rw [Int.toNat_of_nonneg hc.1] at hsp
  unfold setsD at hlook
  repeat' first | ((first | refine Br.dec ?_ ?_ | refine Br.eqi ?_ ?_) <;> intro h <;> try (exfalso; omega)) | (simp (disch := (first | omega | (simp only [vlen]; first | done | omega))) only [vac, ↓vAq, vBq, ↓reduceIte, Nat.reduceBEq, Nat.reduceEqDiff, Nat.reduceLT, Nat.reduceLeDiff, Nat.reduceAdd, Nat.reduceMul, Nat.reduceSub, reduceCtorEq, Int.reduceToNat]) | (refine Br.mk ?_ ?_ <;> intro h) | (refine BrN.mk (fun h => ?_) ?_) | (refine AltVC.mk ?_ ?_)
  · refine CallP.eq hlook (fun h => by cases h) ?_
    repeat' first | ((first | refine Br.dec ?_ ?_ | refine Br.eqi ?_ ?_) <;> intro h <;> try (exfalso; omega)) | (simp (disch := (first | omega | (simp only [vlen]; first | done | omega))) only [vac, ↓vAq, vBq, ↓reduceIte, Nat.reduceBEq, Nat.reduceEqDiff, Nat.reduceLT, Nat.reduceLeDiff, Nat.reduceAdd, Nat.reduceMul, Nat.reduceSub, reduceCtorEq, Int.reduceToNat]) | (refine Br.mk ?_ ?_ <;> intro h) | (refine BrN.mk (fun h => ?_) ?_) | (refine AltVC.mk ?_ ?_)
    refine CallP.eq hsp (fun h => by cases h) ?_
    repeat' first | ((first | refine Br.dec ?_ ?_ | refine Br.eqi ?_ ?_) <;> intro h <;> try (exfalso; omega)) | (simp (disch := (first | omega | (simp only [vlen]; first | done | omega))) only [vac, ↓vAq, vBq, ↓reduceIte, Nat.reduceBEq, Nat.reduceEqDiff, Nat.reduceLT, Nat.reduceLeDiff, Nat.reduceAdd, Nat.reduceMul, Nat.reduceSub, reduceCtorEq, Int.reduceToNat]) | (refine Br.mk ?_ ?_ <;> intro h) | (refine BrN.mk (fun h => ?_) ?_) | (refine AltVC.mk ?_ ?_)
    exact fin_mk (vbEq (by rw [decide_eq_true (by assumption), Bool.true_and]))
  · exact fin_mk (vbEq (by rw [decide_eq_false (by assumption), Bool.false_and]))
theorem sp_det {g : Grammar} {N : Nat} {w : List Int} {a b c : Cf} (h : Sp g N w a b) (k : Sp g N w a c) : b = c := by
  cases h with
  | eat x st i out hx he =>
    cases k with
    | eat => rfl
    | exp _ _ _ _ _ h => exact absurd hx h
  | exp x st i out q hx hq =>
    cases k with
    | eat _ _ _ _ h => exact absurd h hx
    | exp _ _ _ _ q' _ hq' =>
      have : q = q' := by
        rcases Nat.lt_trichotomy q q' with h | h | h
        · exact absurd hq.2.1 (hq'.2.2 q h)
        · exact h
        · exact absurd hq'.2.1 (hq.2.2 q' h)
      rw [this]
theorem sps_stk {g : Grammar} {N : Nat} {w : List Int} {m : Nat} {a c : Cf} (h : Sps g N w m a c) (k : Stk g N w a) : c = a := by
  cases h with
  | refl => rfl
  | head n _ b _ h _ => exact absurd h (k b)
theorem sps_one {g : Grammar} {N : Nat} {w : List Int} {m : Nat} {a b c : Cf} (h : Sps g N w m a c) (hs : Stk g N w c) (k : Sp g N w a b) : ∃ m', m = m' + 1 ∧ Sps g N w m' b c := by
  cases h with
  | refl => exact absurd k (hs b)
  | head n _ b' _ h t => exact ⟨n, rfl, by rw [sp_det k h]; exact t⟩
theorem rev_take {l : List Int} {k : Nat} (h : k < l.length) : l.reverse.take k ++ [l.getD (l.length - 1 - k) 0] = l.reverse.take (k + 1) := by
  rw [take_succ_getD (by simpa using h) 0]
  congr 2
  simp only [List.getD_eq_getElem?_getD]
  rw [List.getElem?_reverse h]
structure Psi (g : Grammar) (N : Nat) (w : List Int) (cend : Cf) (m0 : Nat) (c : Cf) (m : Nat) (R : List Int) : Prop where
  run : Sps g N w m c cend
  at_ : c.at_ ≤ w.length
  rng : ∀ y, y ∈ c.st → 0 ≤ y ∧ y < g.k + g.n
  len : c.st.length + 4 * m ≤ 1 + 4 * m0
  outl : c.out.length + m ≤ m0
  rows : R.take c.st.length = c.st.reverse
noncomputable abbrev paO (g : Grammar) (N : Nat) (out R : List Int) (n : Nat) : List (Nat × Ob) := [(0, gOb g), (2, ⟨1, [[.ip (setsD g (fstL g N) (folL g N) N) 0]], true, false, .fix⟩), (3, ⟨1, i64s out, true, false, .arr⟩), (4, ⟨1, i64s R, true, false, .arr⟩), (5, ⟨1, [[.ref 4 1 0 n]], false, false, .fix⟩)]
def ParR (g : Grammar) (w : List Int) : D → Prop := fun d => (gwC g w ≠ 0 → d = .tu [.sl 1 [], iv .i64 (gwC g w)]) ∧ (gwC g w = 0 → ¬ Clr g (nameSet g true) g.rules.length → d = .tu [.sl 1 [], iv .i64 3]) ∧
    (gwC g w = 0 → Clr g (nameSet g true) g.rules.length → ∃ m0 cend, Sps g (nameSet g true) w m0 ⟨[g.k + g.start], 0, []⟩ cend ∧ Stk g (nameSet g true) w cend ∧ m0 ≤ 200000 ∧ d = (if cend.st = [] ∧ cend.at_ = w.length then .tu [.sl 1 (i64s cend.out), iv .i64 0] else .tu [.sl 1 [], iv .i64 5]))
set_option maxRecDepth 10000 in
set_option maxHeartbeats 4000000 in
theorem parse_spec (g : Grammar) (hg : g.ok) (w : List Int) (hw : w.length ≤ 9223372036854775807) : Dm.Spec Try.prog 19 [.ag (graD g), .sl 1 (i64s w)] (ParR g w) := by
  refine spec_of_vc mixed Try.func19 c19 (by rw [show Try.f19.ntmps = _ from Try.ntmps19]; simp) ?_
  unfold m19 r19
  have hch := tcheck_spec g hg w hw
  by_cases hc : gwC g w = 0
  · have hgc : gcode g = 0 := by unfold gwC at hc; split at hc <;> first | assumption | (exfalso; contradiction)
    have hwc : wcode g.k w = 0 := by unfold gwC at hc; rwa [if_pos hgc] at hc
    have hv := valid_of hgc
    have hk := hv.k
    have hn := hv.n
    have hst := hv.start
    obtain ⟨hw12, hws⟩ := wcode_ok hwc
    have hm1 := make1_spec g hv
    have hclr := clear_spec g hv (nameSet g true) setOf_lt
    have hN : nameSet g true < 2 ^ g.n.toNat := setOf_lt
    rw [hc] at hch
    generalize hNe : nameSet g true = N at hm1 hclr hN
    unfold setsD at hm1 hclr
    repeat' first | ((first | refine Br.dec ?_ ?_ | refine Br.eqi ?_ ?_) <;> intro h <;> try (exfalso; omega)) | (simp (disch := (first | omega | (simp only [vlen]; first | done | omega))) only [vac, ↓vAq, vBq, ↓reduceIte, Nat.reduceBEq, Nat.reduceEqDiff, Nat.reduceLT, Nat.reduceLeDiff, Nat.reduceAdd, Nat.reduceMul, Nat.reduceSub, reduceCtorEq, Int.reduceToNat]) | (refine Br.mk ?_ ?_ <;> intro h) | (refine BrN.mk (fun h => ?_) ?_) | (refine AltVC.mk ?_ ?_)
    refine CallVC.eq hch ?_
    repeat' first | ((first | refine Br.dec ?_ ?_ | refine Br.eqi ?_ ?_) <;> intro h <;> try (exfalso; omega)) | (simp (disch := (first | omega | (simp only [vlen]; first | done | omega))) only [vac, ↓vAq, vBq, ↓reduceIte, Nat.reduceBEq, Nat.reduceEqDiff, Nat.reduceLT, Nat.reduceLeDiff, Nat.reduceAdd, Nat.reduceMul, Nat.reduceSub, reduceCtorEq, Int.reduceToNat]) | (refine Br.mk ?_ ?_ <;> intro h) | (refine BrN.mk (fun h => ?_) ?_) | (refine AltVC.mk ?_ ?_)
    refine CallVC.eq hm1 ?_
    repeat' first | ((first | refine Br.dec ?_ ?_ | refine Br.eqi ?_ ?_) <;> intro h <;> try (exfalso; omega)) | (simp (disch := (first | omega | (simp only [vlen]; first | done | omega))) only [vac, ↓vAq, vBq, ↓reduceIte, Nat.reduceBEq, Nat.reduceEqDiff, Nat.reduceLT, Nat.reduceLeDiff, Nat.reduceAdd, Nat.reduceMul, Nat.reduceSub, reduceCtorEq, Int.reduceToNat]) | (refine Br.mk ?_ ?_ <;> intro h) | (refine BrN.mk (fun h => ?_) ?_) | (refine AltVC.mk ?_ ?_)
    refine CallVC.mk hclr ?_
    rintro d ⟨b, rfl, hb⟩
    cases b with
    | false =>
      have hncl : ¬ Clr g N g.rules.length := fun h => by have := hb.2 h; cases this
      repeat' first | ((first | refine Br.dec ?_ ?_ | refine Br.eqi ?_ ?_) <;> intro h <;> try (exfalso; omega)) | (simp (disch := (first | omega | (simp only [vlen]; first | done | omega))) only [vac, ↓vAq, vBq, ↓reduceIte, Nat.reduceBEq, Nat.reduceEqDiff, Nat.reduceLT, Nat.reduceLeDiff, Nat.reduceAdd, Nat.reduceMul, Nat.reduceSub, reduceCtorEq, Int.reduceToNat]) | (refine Br.mk ?_ ?_ <;> intro h) | (refine BrN.mk (fun h => ?_) ?_) | (refine AltVC.mk ?_ ?_)
      exact fin_mk ⟨fun h => absurd hc h, fun _ _ => rfl, fun _ h => absurd (by rw [← hNe]; exact h) hncl⟩
    | true =>
      have hcl := hb.1 rfl
      have hres : ∀ m0 cend d, Sps g N w m0 ⟨[g.k + g.start], 0, []⟩ cend → Stk g N w cend → m0 ≤ 200000 → d = (if cend.st = [] ∧ cend.at_ = w.length then D.tu [.sl 1 (i64s cend.out), iv .i64 0] else .tu [.sl 1 [], iv .i64 5]) → ParR g w d := fun m0 cend d h1 h2 h3 h4 =>
        ⟨fun h => absurd hc h, fun _ h => absurd (by rw [hNe]; exact hcl) h, fun _ _ => ⟨m0, cend, by rw [hNe]; exact h1, by rw [hNe]; exact h2, h3, h4⟩⟩
      obtain ⟨m0, cend, hrun, hstk, hm0⟩ := runs hv hNe.symm hcl hws w.length [g.k + g.start] 0 [] (by omega) (fun y hy => by
        rw [List.mem_singleton] at hy
        subst hy
        exact ⟨by omega, fun _ => by rw [show (g.k + g.start - g.k).toNat = g.start.toNat by omega]; exact .start⟩)
      simp only [List.length_singleton] at hm0
      have hm0' : m0 ≤ 200000 := by omega
      have hres := fun d => hres m0 cend d hrun hstk hm0'
      have hone : ∀ z : Int, [[D.v (.int .i64 z)]] = i64s [z] := fun _ => rfl
      repeat' first | ((first | refine Br.dec ?_ ?_ | refine Br.eqi ?_ ?_) <;> intro h <;> try (exfalso; omega)) | (simp (disch := (first | omega | (simp only [vlen]; first | done | omega))) only [vac, ↓vAq, vBq, ↓reduceIte, Nat.reduceBEq, Nat.reduceEqDiff, Nat.reduceLT, Nat.reduceLeDiff, Nat.reduceAdd, Nat.reduceMul, Nat.reduceSub, reduceCtorEq, Int.reduceToNat]) | (refine Br.mk ?_ ?_ <;> intro h) | (refine BrN.mk (fun h => ?_) ?_) | (refine AltVC.mk ?_ ?_)
      refine LoopVC.mk (X := Cf × Nat × List Int) (fun x => [(8, .ref 3 1 0 x.1.out.length), (10, iv .i64 x.1.at_)]) (fun x => paO g N x.1.out x.2.2 x.1.st.length) (fun x => x.2.1) (fun x => Psi g N w cend m0 x.1 x.2.1 x.2.2) (⟨[g.k + g.start], 0, []⟩, m0, [g.k + g.start]) ⟨hrun, by simp, fun y hy => by rw [List.mem_singleton] at hy; omega, by simp, by simp, by simp⟩ ?_ ?_
      · (simp (disch := (first | omega | (simp only [vlen]; first | done | omega))) only [Fits_u, Fits_m, Fits_nil, List.length_append, vac, hone, ↓vAq, vBq, ↓reduceIte, Nat.reduceBEq, Nat.reduceEqDiff, Nat.reduceLT, Nat.reduceLeDiff, Nat.reduceAdd, Nat.reduceMul, Nat.reduceSub, reduceCtorEq, Int.reduceToNat] <;> (repeat' first | rfl | apply And.intro))
      · rintro ⟨⟨st, i, out⟩, m, R⟩ ⟨p1, p2, p3, p4, p5, p6⟩
        simp only at p1 p2 p3 p4 p5 p6
        cases st with
        | nil =>
          have hce := sps_stk p1 (fun c' h => by cases h)
          subst hce
          by_cases hi : i < w.length
          · repeat' first | ((first | refine Br.dec ?_ ?_ | refine Br.eqi ?_ ?_) <;> intro h <;> try (exfalso; omega)) | (simp (disch := (first | omega | (simp only [vlen]; first | done | omega))) only [vac, ↓vAq, vBq, ↓reduceIte, Nat.reduceBEq, Nat.reduceEqDiff, Nat.reduceLT, Nat.reduceLeDiff, Nat.reduceAdd, Nat.reduceMul, Nat.reduceSub, reduceCtorEq, Int.reduceToNat]) | (refine Br.mk ?_ ?_ <;> intro h) | (refine BrN.mk (fun h => ?_) ?_) | (refine AltVC.mk ?_ ?_)
            exact fin_mk (hres _ (by rw [if_neg (fun h => by have := h.2; simp only at this; omega)]))
          · have hie : i = w.length := by omega
            subst hie
            repeat' first | ((first | refine Br.dec ?_ ?_ | refine Br.eqi ?_ ?_) <;> intro h <;> try (exfalso; omega)) | (simp (disch := (first | omega | (simp only [vlen]; first | done | omega))) only [vac, ↓vAq, vBq, ↓reduceIte, Nat.reduceBEq, Nat.reduceEqDiff, Nat.reduceLT, Nat.reduceLeDiff, Nat.reduceAdd, Nat.reduceMul, Nat.reduceSub, reduceCtorEq, Int.reduceToNat]) | (refine Br.mk ?_ ?_ <;> intro h) | (refine BrN.mk (fun h => ?_) ?_) | (refine AltVC.mk ?_ ?_)
            exact fin_mk (hres _ (by rw [if_pos ⟨rfl, rfl⟩]))
        | cons x st =>
          have hRl : st.length + 1 ≤ R.length := by
            have := congrArg List.length p6
            rw [List.length_take, List.length_reverse, List.length_cons] at this; omega
          have hRx : R.getD st.length 0 = x := by
            have e : R.getD st.length 0 = (R.take (st.length + 1)).getD st.length 0 := by
              simp [List.getD, List.getElem?_take]
            rw [e]
            have p6 : R.take (st.length + 1) = (x :: st).reverse := p6
            rw [p6]; simp [List.getD]
          have hRt : R.take st.length = st.reverse := by
            have e : R.take st.length = (R.take (st.length + 1)).take st.length := by rw [List.take_take, Nat.min_eq_left (by omega)]
            have p6 : R.take (st.length + 1) = (x :: st).reverse := p6
            rw [e, p6, List.reverse_cons, List.take_append_of_le_length (by simp), List.take_of_length_le (by simp)]
          have hxr := p3 x (by simp)
          have p4' : st.length + 1 + 4 * m ≤ 1 + 4 * m0 := p4
          by_cases hi : i < w.length
          · have hsy : symAt g w i = w.getD i 0 := by unfold symAt; rw [if_pos hi]
            by_cases hx : x < g.k
            · by_cases he : x = w.getD i 0
              · have hstep : Sp g N w ⟨x :: st, i, out⟩ ⟨st, i + 1, out⟩ := .eat x st i out hx (by rw [hsy]; exact he)
                obtain ⟨m', rfl, hrun'⟩ := sps_one p1 hstk hstep
                repeat' first | ((first | refine Br.dec ?_ ?_ | refine Br.eqi ?_ ?_) <;> intro h <;> try (exfalso; omega)) | (simp (disch := (first | omega | (simp only [vlen]; first | done | omega))) only [vac, List.length_cons, Int.add_sub_cancel, Nat.sub_zero, hRx, ↓vAq, vBq, ↓reduceIte, Nat.reduceBEq, Nat.reduceEqDiff, Nat.reduceLT, Nat.reduceLeDiff, Nat.reduceAdd, Nat.reduceMul, Nat.reduceSub, reduceCtorEq, Int.reduceToNat]) | (refine Br.mk ?_ ?_ <;> intro h) | (refine BrN.mk (fun h => ?_) ?_) | (refine AltVC.mk ?_ ?_)
                exact loopK.mk (⟨st, i + 1, out⟩, m', R) (by simp (disch := (first | omega | (simp only [vlen]; first | done | omega))) only [↓vAq, vBq, ↓reduceIte, Nat.reduceBEq, Nat.reduceEqDiff, Nat.reduceLT, Nat.reduceLeDiff, Nat.reduceAdd, Nat.reduceMul, Nat.reduceSub, reduceCtorEq, Int.reduceToNat]) ⟨hrun', by simp only; omega, fun y hy => p3 y (by simp [hy]), by simp only; omega, by simp only; omega, hRt⟩ (by simp only; omega) (by (simp (disch := (first | omega | (simp only [vlen]; first | done | omega))) only [Fits_u, Fits_m, Fits_nil, List.length_append, vac, Nat.sub_zero, ↓vAq, vBq, ↓reduceIte, Nat.reduceBEq, Nat.reduceEqDiff, Nat.reduceLT, Nat.reduceLeDiff, Nat.reduceAdd, Nat.reduceMul, Nat.reduceSub, reduceCtorEq, Int.reduceToNat] <;> (repeat' first | rfl | apply And.intro)))
              · have hce := sps_stk p1 (fun c' h => by
                  cases h with
                  | eat _ _ _ _ _ h => exact he (by rw [← hsy]; exact h)
                  | exp _ _ _ _ _ h _ => exact h hx)
                subst hce
                repeat' first | ((first | refine Br.dec ?_ ?_ | refine Br.eqi ?_ ?_) <;> intro h <;> try (exfalso; omega)) | (simp (disch := (first | omega | (simp only [vlen]; first | done | omega))) only [vac, List.length_cons, Int.add_sub_cancel, Nat.sub_zero, hRx, ↓vAq, vBq, ↓reduceIte, Nat.reduceBEq, Nat.reduceEqDiff, Nat.reduceLT, Nat.reduceLeDiff, Nat.reduceAdd, Nat.reduceMul, Nat.reduceSub, reduceCtorEq, Int.reduceToNat]) | (refine Br.mk ?_ ?_ <;> intro h) | (refine BrN.mk (fun h => ?_) ?_) | (refine AltVC.mk ?_ ?_)
                exact fin_mk (hres _ (by rw [if_neg (fun h => by cases h.1)]))
            · have hp1 := fun (a : Rule) (ha : a ∈ g.rules) => parse1_spec g hv N hN a ha x (w.getD i 0) hxr (by have := hws _ (getD_mem (d := 0) hi); omega)
              have hidx := idxF_rule g.rules (fun a => decide (a.left = x - g.k) && (lk g N a).testBit (w.getD i 0).toNat) 46 [.ip [iv .i64 x] 0, .ip (graD g) 0, .ip [.ip (setsD g (fstL g N) (folL g N) N) 0] 0, .ip [iv .i64 (w.getD i 0)] 0] (by have := hv.len; omega) (by simp (disch := (first | omega | (simp only [vlen]; first | done | omega))) only [↓vAq, vBq, ↓reduceIte, Nat.reduceBEq, Nat.reduceEqDiff, Nat.reduceLT, Nat.reduceLeDiff, Nat.reduceAdd, Nat.reduceMul, Nat.reduceSub, reduceCtorEq, Int.reduceToNat]) hp1
              have hhit : ∀ q, (fun a : Rule => decide (a.left = x - g.k) && (lk g N a).testBit (w.getD i 0).toNat) (g.rules.getD q default) = true ↔ Hit g N x (symAt g w i) q := fun q => by
                rw [hsy]; unfold Hit
                simp only [Bool.and_eq_true, decide_eq_true_eq]
              have hmiss : ∀ q, ¬ Hit g N x (symAt g w i) q → (fun a : Rule => decide (a.left = x - g.k) && (lk g N a).testBit (w.getD i 0).toNat) (g.rules.getD q default) = false := fun q h => by
                rw [← Bool.not_eq_true, hhit]; exact h
              by_cases hq : ∃ q, Chs g N x (symAt g w i) q
              · obtain ⟨q, hq⟩ := hq
                rw [idxOf_hit hq.1 ((hhit q).2 hq.2.1) (fun j hj => hmiss j (hq.2.2 j hj))] at hidx
                obtain ⟨m', rfl, hrun'⟩ := sps_one p1 hstk (.exp x st i out q hx hq)
                repeat' first | ((first | refine Br.dec ?_ ?_ | refine Br.eqi ?_ ?_) <;> intro h <;> try (exfalso; omega)) | (simp (disch := (first | omega | (simp only [vlen]; first | done | omega))) only [vac, List.length_cons, Int.add_sub_cancel, Nat.sub_zero, hRx, ↓vAq, vBq, ↓reduceIte, Nat.reduceBEq, Nat.reduceEqDiff, Nat.reduceLT, Nat.reduceLeDiff, Nat.reduceAdd, Nat.reduceMul, Nat.reduceSub, reduceCtorEq, Int.reduceToNat]) | (refine Br.mk ?_ ?_ <;> intro h) | (refine BrN.mk (fun h => ?_) ?_) | (refine AltVC.mk ?_ ?_)
                have hql := hq.1
                have hqm : g.rules.getD q default ∈ g.rules := getD_mem' hql
                generalize hre : g.rules.getD q default = r at hqm hrun'
                refine CallVC.eqo hidx (by repeat' first | ((first | refine Br.dec ?_ ?_ | refine Br.eqi ?_ ?_) <;> intro h <;> try (exfalso; omega)) | (simp (disch := (first | omega | (simp only [vlen]; first | done | omega))) only [vac, ↓vAq, vBq, ↓reduceIte, Nat.reduceBEq, Nat.reduceEqDiff, Nat.reduceLT, Nat.reduceLeDiff, Nat.reduceAdd, Nat.reduceMul, Nat.reduceSub, reduceCtorEq, Int.reduceToNat]) | (refine Br.mk ?_ ?_ <;> intro h) | (refine BrN.mk (fun h => ?_) ?_) | (refine AltVC.mk ?_ ?_)) ?_
                repeat' first | ((first | refine Br.dec ?_ ?_ | refine Br.eqi ?_ ?_) <;> intro h <;> try (exfalso; omega)) | (simp (disch := (first | omega | (simp only [vlen]; first | done | omega))) only [vac, List.length_cons, Int.add_sub_cancel, Nat.sub_zero, hRx, hre, ↓vAq, vBq, ↓reduceIte, Nat.reduceBEq, Nat.reduceEqDiff, Nat.reduceLT, Nat.reduceLeDiff, Nat.reduceAdd, Nat.reduceMul, Nat.reduceSub, reduceCtorEq, Int.reduceToNat]) | (refine Br.mk ?_ ?_ <;> intro h) | (refine BrN.mk (fun h => ?_) ?_) | (refine AltVC.mk ?_ ?_)
                refine CallVC.eq (backward_spec r.right) ?_
                repeat' first | ((first | refine Br.dec ?_ ?_ | refine Br.eqi ?_ ?_) <;> intro h <;> try (exfalso; omega)) | (simp (disch := (first | omega | (simp only [vlen]; first | done | omega))) only [vac, ↓vAq, vBq, ↓reduceIte, Nat.reduceBEq, Nat.reduceEqDiff, Nat.reduceLT, Nat.reduceLeDiff, Nat.reduceAdd, Nat.reduceMul, Nat.reduceSub, reduceCtorEq, Int.reduceToNat]) | (refine Br.mk ?_ ?_ <;> intro h) | (refine BrN.mk (fun h => ?_) ?_) | (refine AltVC.mk ?_ ?_)
                refine RfVC.mk (bkRows r.right) (fun _ => [(8, .ref 3 1 0 (out.length + 1))]) (fun y : Nat × List Int => [(0, gOb g), (2, ⟨1, [[.ip (setsD g (fstL g N) (folL g N) N) 0]], true, false, .fix⟩), (3, ⟨1, i64s (out ++ [(q : Int)]), true, false, .arr⟩), (4, ⟨1, i64s y.2, true, false, .arr⟩), (5, ⟨1, [[.ref 4 1 0 (st.length + y.1)]], false, false, .fix⟩)])
                  (fun k y => y.1 = k ∧ y.2.take (st.length + k) = st.reverse ++ r.right.reverse.take k ∧ st.length + k ≤ y.2.length) (0, R) ?_ ?_ ⟨rfl, by simpa using hRt, Nat.le_of_succ_le hRl⟩ ?_ (fun _ => rfl) ?_ ?_
                · repeat' first | ((first | refine Br.dec ?_ ?_ | refine Br.eqi ?_ ?_) <;> intro h <;> try (exfalso; omega)) | (simp (disch := (first | omega | (simp only [vlen]; first | done | omega))) only [vac, ↓vAq, vBq, ↓reduceIte, Nat.reduceBEq, Nat.reduceEqDiff, Nat.reduceLT, Nat.reduceLeDiff, Nat.reduceAdd, Nat.reduceMul, Nat.reduceSub, reduceCtorEq, Int.reduceToNat]) | (refine Br.mk ?_ ?_ <;> intro h) | (refine BrN.mk (fun h => ?_) ?_) | (refine AltVC.mk ?_ ?_)
                  exact IterD.mk (by simp only [List.all_cons, List.all_nil, Bool.and_true]; unfold D.cl; rw [alls_leaf rfl]; rfl) (back_it r.right (by have := hv.long r hqm; omega))
                · intro z hz
                  obtain ⟨_, _, rfl⟩ := List.mem_map.1 hz
                  rfl
                · (simp (disch := (first | omega | (simp only [vlen]; first | done | omega))) only [Fits_u, Fits_m, Fits_nil, List.length_append, vac, Nat.sub_zero, List.length_append, List.length_singleton, ↓vAq, vBq, ↓reduceIte, Nat.reduceBEq, Nat.reduceEqDiff, Nat.reduceLT, Nat.reduceLeDiff, Nat.reduceAdd, Nat.reduceMul, Nat.reduceSub, reduceCtorEq, Int.reduceToNat] <;> (repeat' first | rfl | apply And.intro))
                · rintro k ⟨kk, R2⟩ hk2 ⟨e0, y1, y2⟩
                  simp only at e0 y1 y2
                  subst e0
                  rw [bkRows_len] at hk2
                  rw [bkRows_get hk2]
                  unfold bkRow
                  have hlong := hv.long r hqm
                  have hrv := rev_take hk2
                  have hrR : (R2.take (st.length + kk) ++ [r.right.getD (r.right.length - 1 - kk) 0]) = st.reverse ++ r.right.reverse.take (kk + 1) := by rw [y1, List.append_assoc, hrv]
                  have hrL : (R2.take (st.length + kk) ++ [r.right.getD (r.right.length - 1 - kk) 0]).length = st.length + (kk + 1) := by simp; omega
                  repeat' first | ((first | refine Br.dec ?_ ?_ | refine Br.eqi ?_ ?_) <;> intro h <;> try (exfalso; omega)) | (simp (disch := (first | omega | (simp only [vlen]; first | done | omega))) only [vac, ↓vAq, vBq, ↓reduceIte, Nat.reduceBEq, Nat.reduceEqDiff, Nat.reduceLT, Nat.reduceLeDiff, Nat.reduceAdd, Nat.reduceMul, Nat.reduceSub, reduceCtorEq, Int.reduceToNat]) | (refine Br.mk ?_ ?_ <;> intro h) | (refine BrN.mk (fun h => ?_) ?_) | (refine AltVC.mk ?_ ?_)
                  exact rfK.mk (kk + 1, R2.take (st.length + kk) ++ [r.right.getD (r.right.length - 1 - kk) 0]) (by simp (disch := (first | omega | (simp only [vlen]; first | done | omega))) only [↓vAq, vBq, ↓reduceIte, Nat.reduceBEq, Nat.reduceEqDiff, Nat.reduceLT, Nat.reduceLeDiff, Nat.reduceAdd, Nat.reduceMul, Nat.reduceSub, reduceCtorEq, Int.reduceToNat]) ⟨rfl, by rw [List.take_of_length_le (Nat.le_of_eq hrL)]; exact hrR, Nat.le_of_eq hrL.symm⟩ (by (simp (disch := (first | omega | (simp only [vlen]; first | done | omega))) only [Fits_u, Fits_m, Fits_nil, List.length_append, vac, Nat.add_assoc, ↓vAq, vBq, ↓reduceIte, Nat.reduceBEq, Nat.reduceEqDiff, Nat.reduceLT, Nat.reduceLeDiff, Nat.reduceAdd, Nat.reduceMul, Nat.reduceSub, reduceCtorEq, Int.reduceToNat] <;> (repeat' first | rfl | apply And.intro)))
                · rintro ⟨kk, R2⟩ ⟨e0, y1, y2⟩
                  simp only at e0 y1 y2
                  subst e0
                  have hbl := @bkRows_len r.right
                  rw [hbl] at y1 y2
                  have hlong := hv.long r hqm
                  rw [List.take_of_length_le (l := r.right.reverse) (by simp)] at y1
                  repeat' first | ((first | refine Br.dec ?_ ?_ | refine Br.eqi ?_ ?_) <;> intro h <;> try (exfalso; omega)) | (simp (disch := (first | omega | (simp only [vlen]; first | done | omega))) only [vac, hbl, ↓vAq, vBq, ↓reduceIte, Nat.reduceBEq, Nat.reduceEqDiff, Nat.reduceLT, Nat.reduceLeDiff, Nat.reduceAdd, Nat.reduceMul, Nat.reduceSub, reduceCtorEq, Int.reduceToNat]) | (refine Br.mk ?_ ?_ <;> intro h) | (refine BrN.mk (fun h => ?_) ?_) | (refine AltVC.mk ?_ ?_)
                  exact loopK.mk (⟨r.right ++ st, i, out ++ [(q : Int)]⟩, m', R2) (by simp (disch := (first | omega | (simp only [vlen]; first | done | omega))) only [↓vAq, vBq, ↓reduceIte, Nat.reduceBEq, Nat.reduceEqDiff, Nat.reduceLT, Nat.reduceLeDiff, Nat.reduceAdd, Nat.reduceMul, Nat.reduceSub, reduceCtorEq, Int.reduceToNat]) ⟨by rw [← hre] at hrun' ⊢; exact hrun', p2, fun y hy => (List.mem_append.1 hy).elim (hv.right r hqm y) (fun h => p3 y (by simp [h])), by simp only [List.length_append]; omega, by simp only [List.length_append, List.length_singleton]; omega, by simp only [List.length_append, List.reverse_append]; rw [Nat.add_comm]; exact y1⟩ (by simp only; omega) (by (simp (disch := (first | omega | (simp only [vlen]; first | done | omega))) only [Fits_u, Fits_m, Fits_nil, List.length_append, vac, List.length_append, List.length_singleton, Nat.add_comm, ↓vAq, vBq, ↓reduceIte, Nat.reduceBEq, Nat.reduceEqDiff, Nat.reduceLT, Nat.reduceLeDiff, Nat.reduceAdd, Nat.reduceMul, Nat.reduceSub, reduceCtorEq, Int.reduceToNat] <;> (repeat' first | rfl | apply And.intro)))
              · have hce := sps_stk p1 (fun c' h => by
                  cases h with
                  | eat _ _ _ _ h _ => exact hx h
                  | exp _ _ _ _ q _ h => exact hq ⟨q, h⟩)
                subst hce
                rw [idxOf_miss (Nat.le_refl _) (fun j hj => hmiss j (fun h => hq ⟨j, chs_of hcl hj h⟩))] at hidx
                repeat' first | ((first | refine Br.dec ?_ ?_ | refine Br.eqi ?_ ?_) <;> intro h <;> try (exfalso; omega)) | (simp (disch := (first | omega | (simp only [vlen]; first | done | omega))) only [vac, List.length_cons, Int.add_sub_cancel, Nat.sub_zero, hRx, ↓vAq, vBq, ↓reduceIte, Nat.reduceBEq, Nat.reduceEqDiff, Nat.reduceLT, Nat.reduceLeDiff, Nat.reduceAdd, Nat.reduceMul, Nat.reduceSub, reduceCtorEq, Int.reduceToNat]) | (refine Br.mk ?_ ?_ <;> intro h) | (refine BrN.mk (fun h => ?_) ?_) | (refine AltVC.mk ?_ ?_)
                refine CallVC.eqo hidx (by repeat' first | ((first | refine Br.dec ?_ ?_ | refine Br.eqi ?_ ?_) <;> intro h <;> try (exfalso; omega)) | (simp (disch := (first | omega | (simp only [vlen]; first | done | omega))) only [vac, ↓vAq, vBq, ↓reduceIte, Nat.reduceBEq, Nat.reduceEqDiff, Nat.reduceLT, Nat.reduceLeDiff, Nat.reduceAdd, Nat.reduceMul, Nat.reduceSub, reduceCtorEq, Int.reduceToNat]) | (refine Br.mk ?_ ?_ <;> intro h) | (refine BrN.mk (fun h => ?_) ?_) | (refine AltVC.mk ?_ ?_)) ?_
                repeat' first | ((first | refine Br.dec ?_ ?_ | refine Br.eqi ?_ ?_) <;> intro h <;> try (exfalso; omega)) | (simp (disch := (first | omega | (simp only [vlen]; first | done | omega))) only [vac, List.length_cons, Int.add_sub_cancel, Nat.sub_zero, hRx, ↓vAq, vBq, ↓reduceIte, Nat.reduceBEq, Nat.reduceEqDiff, Nat.reduceLT, Nat.reduceLeDiff, Nat.reduceAdd, Nat.reduceMul, Nat.reduceSub, reduceCtorEq, Int.reduceToNat]) | (refine Br.mk ?_ ?_ <;> intro h) | (refine BrN.mk (fun h => ?_) ?_) | (refine AltVC.mk ?_ ?_)
                exact fin_mk (hres _ (by rw [if_neg (fun h => by cases h.1)]))
          · have hsy : symAt g w i = g.k := by unfold symAt; rw [if_neg hi]
            by_cases hx : x < g.k
            · by_cases he : x = g.k
              · have hstep : Sp g N w ⟨x :: st, i, out⟩ ⟨st, i + 1, out⟩ := .eat x st i out hx (by rw [hsy]; exact he)
                obtain ⟨m', rfl, hrun'⟩ := sps_one p1 hstk hstep
                exact absurd he (by omega)
              · have hce := sps_stk p1 (fun c' h => by
                  cases h with
                  | eat _ _ _ _ _ h => exact he (by rw [← hsy]; exact h)
                  | exp _ _ _ _ _ h _ => exact h hx)
                subst hce
                repeat' first | ((first | refine Br.dec ?_ ?_ | refine Br.eqi ?_ ?_) <;> intro h <;> try (exfalso; omega)) | (simp (disch := (first | omega | (simp only [vlen]; first | done | omega))) only [vac, List.length_cons, Int.add_sub_cancel, Nat.sub_zero, hRx, ↓vAq, vBq, ↓reduceIte, Nat.reduceBEq, Nat.reduceEqDiff, Nat.reduceLT, Nat.reduceLeDiff, Nat.reduceAdd, Nat.reduceMul, Nat.reduceSub, reduceCtorEq, Int.reduceToNat]) | (refine Br.mk ?_ ?_ <;> intro h) | (refine BrN.mk (fun h => ?_) ?_) | (refine AltVC.mk ?_ ?_)
                exact fin_mk (hres _ (by rw [if_neg (fun h => by cases h.1)]))
            · have hp1 := fun (a : Rule) (ha : a ∈ g.rules) => parse1_spec g hv N hN a ha x (g.k) hxr (by omega)
              have hidx := idxF_rule g.rules (fun a => decide (a.left = x - g.k) && (lk g N a).testBit (g.k).toNat) 46 [.ip [iv .i64 x] 0, .ip (graD g) 0, .ip [.ip (setsD g (fstL g N) (folL g N) N) 0] 0, .ip [iv .i64 (g.k)] 0] (by have := hv.len; omega) (by simp (disch := (first | omega | (simp only [vlen]; first | done | omega))) only [↓vAq, vBq, ↓reduceIte, Nat.reduceBEq, Nat.reduceEqDiff, Nat.reduceLT, Nat.reduceLeDiff, Nat.reduceAdd, Nat.reduceMul, Nat.reduceSub, reduceCtorEq, Int.reduceToNat]) hp1
              have hhit : ∀ q, (fun a : Rule => decide (a.left = x - g.k) && (lk g N a).testBit (g.k).toNat) (g.rules.getD q default) = true ↔ Hit g N x (symAt g w i) q := fun q => by
                rw [hsy]; unfold Hit
                simp only [Bool.and_eq_true, decide_eq_true_eq]
              have hmiss : ∀ q, ¬ Hit g N x (symAt g w i) q → (fun a : Rule => decide (a.left = x - g.k) && (lk g N a).testBit (g.k).toNat) (g.rules.getD q default) = false := fun q h => by
                rw [← Bool.not_eq_true, hhit]; exact h
              by_cases hq : ∃ q, Chs g N x (symAt g w i) q
              · obtain ⟨q, hq⟩ := hq
                rw [idxOf_hit hq.1 ((hhit q).2 hq.2.1) (fun j hj => hmiss j (hq.2.2 j hj))] at hidx
                obtain ⟨m', rfl, hrun'⟩ := sps_one p1 hstk (.exp x st i out q hx hq)
                repeat' first | ((first | refine Br.dec ?_ ?_ | refine Br.eqi ?_ ?_) <;> intro h <;> try (exfalso; omega)) | (simp (disch := (first | omega | (simp only [vlen]; first | done | omega))) only [vac, List.length_cons, Int.add_sub_cancel, Nat.sub_zero, hRx, ↓vAq, vBq, ↓reduceIte, Nat.reduceBEq, Nat.reduceEqDiff, Nat.reduceLT, Nat.reduceLeDiff, Nat.reduceAdd, Nat.reduceMul, Nat.reduceSub, reduceCtorEq, Int.reduceToNat]) | (refine Br.mk ?_ ?_ <;> intro h) | (refine BrN.mk (fun h => ?_) ?_) | (refine AltVC.mk ?_ ?_)
                have hql := hq.1
                have hqm : g.rules.getD q default ∈ g.rules := getD_mem' hql
                generalize hre : g.rules.getD q default = r at hqm hrun'
                refine CallVC.eqo hidx (by repeat' first | ((first | refine Br.dec ?_ ?_ | refine Br.eqi ?_ ?_) <;> intro h <;> try (exfalso; omega)) | (simp (disch := (first | omega | (simp only [vlen]; first | done | omega))) only [vac, ↓vAq, vBq, ↓reduceIte, Nat.reduceBEq, Nat.reduceEqDiff, Nat.reduceLT, Nat.reduceLeDiff, Nat.reduceAdd, Nat.reduceMul, Nat.reduceSub, reduceCtorEq, Int.reduceToNat]) | (refine Br.mk ?_ ?_ <;> intro h) | (refine BrN.mk (fun h => ?_) ?_) | (refine AltVC.mk ?_ ?_)) ?_
                repeat' first | ((first | refine Br.dec ?_ ?_ | refine Br.eqi ?_ ?_) <;> intro h <;> try (exfalso; omega)) | (simp (disch := (first | omega | (simp only [vlen]; first | done | omega))) only [vac, List.length_cons, Int.add_sub_cancel, Nat.sub_zero, hRx, hre, ↓vAq, vBq, ↓reduceIte, Nat.reduceBEq, Nat.reduceEqDiff, Nat.reduceLT, Nat.reduceLeDiff, Nat.reduceAdd, Nat.reduceMul, Nat.reduceSub, reduceCtorEq, Int.reduceToNat]) | (refine Br.mk ?_ ?_ <;> intro h) | (refine BrN.mk (fun h => ?_) ?_) | (refine AltVC.mk ?_ ?_)
                refine CallVC.eq (backward_spec r.right) ?_
                repeat' first | ((first | refine Br.dec ?_ ?_ | refine Br.eqi ?_ ?_) <;> intro h <;> try (exfalso; omega)) | (simp (disch := (first | omega | (simp only [vlen]; first | done | omega))) only [vac, ↓vAq, vBq, ↓reduceIte, Nat.reduceBEq, Nat.reduceEqDiff, Nat.reduceLT, Nat.reduceLeDiff, Nat.reduceAdd, Nat.reduceMul, Nat.reduceSub, reduceCtorEq, Int.reduceToNat]) | (refine Br.mk ?_ ?_ <;> intro h) | (refine BrN.mk (fun h => ?_) ?_) | (refine AltVC.mk ?_ ?_)
                refine RfVC.mk (bkRows r.right) (fun _ => [(8, .ref 3 1 0 (out.length + 1))]) (fun y : Nat × List Int => [(0, gOb g), (2, ⟨1, [[.ip (setsD g (fstL g N) (folL g N) N) 0]], true, false, .fix⟩), (3, ⟨1, i64s (out ++ [(q : Int)]), true, false, .arr⟩), (4, ⟨1, i64s y.2, true, false, .arr⟩), (5, ⟨1, [[.ref 4 1 0 (st.length + y.1)]], false, false, .fix⟩)])
                  (fun k y => y.1 = k ∧ y.2.take (st.length + k) = st.reverse ++ r.right.reverse.take k ∧ st.length + k ≤ y.2.length) (0, R) ?_ ?_ ⟨rfl, by simpa using hRt, Nat.le_of_succ_le hRl⟩ ?_ (fun _ => rfl) ?_ ?_
                · repeat' first | ((first | refine Br.dec ?_ ?_ | refine Br.eqi ?_ ?_) <;> intro h <;> try (exfalso; omega)) | (simp (disch := (first | omega | (simp only [vlen]; first | done | omega))) only [vac, ↓vAq, vBq, ↓reduceIte, Nat.reduceBEq, Nat.reduceEqDiff, Nat.reduceLT, Nat.reduceLeDiff, Nat.reduceAdd, Nat.reduceMul, Nat.reduceSub, reduceCtorEq, Int.reduceToNat]) | (refine Br.mk ?_ ?_ <;> intro h) | (refine BrN.mk (fun h => ?_) ?_) | (refine AltVC.mk ?_ ?_)
                  exact IterD.mk (by simp only [List.all_cons, List.all_nil, Bool.and_true]; unfold D.cl; rw [alls_leaf rfl]; rfl) (back_it r.right (by have := hv.long r hqm; omega))
                · intro z hz
                  obtain ⟨_, _, rfl⟩ := List.mem_map.1 hz
                  rfl
                · (simp (disch := (first | omega | (simp only [vlen]; first | done | omega))) only [Fits_u, Fits_m, Fits_nil, List.length_append, vac, Nat.sub_zero, List.length_append, List.length_singleton, ↓vAq, vBq, ↓reduceIte, Nat.reduceBEq, Nat.reduceEqDiff, Nat.reduceLT, Nat.reduceLeDiff, Nat.reduceAdd, Nat.reduceMul, Nat.reduceSub, reduceCtorEq, Int.reduceToNat] <;> (repeat' first | rfl | apply And.intro))
                · rintro k ⟨kk, R2⟩ hk2 ⟨e0, y1, y2⟩
                  simp only at e0 y1 y2
                  subst e0
                  rw [bkRows_len] at hk2
                  rw [bkRows_get hk2]
                  unfold bkRow
                  have hlong := hv.long r hqm
                  have hrv := rev_take hk2
                  have hrR : (R2.take (st.length + kk) ++ [r.right.getD (r.right.length - 1 - kk) 0]) = st.reverse ++ r.right.reverse.take (kk + 1) := by rw [y1, List.append_assoc, hrv]
                  have hrL : (R2.take (st.length + kk) ++ [r.right.getD (r.right.length - 1 - kk) 0]).length = st.length + (kk + 1) := by simp; omega
                  repeat' first | ((first | refine Br.dec ?_ ?_ | refine Br.eqi ?_ ?_) <;> intro h <;> try (exfalso; omega)) | (simp (disch := (first | omega | (simp only [vlen]; first | done | omega))) only [vac, ↓vAq, vBq, ↓reduceIte, Nat.reduceBEq, Nat.reduceEqDiff, Nat.reduceLT, Nat.reduceLeDiff, Nat.reduceAdd, Nat.reduceMul, Nat.reduceSub, reduceCtorEq, Int.reduceToNat]) | (refine Br.mk ?_ ?_ <;> intro h) | (refine BrN.mk (fun h => ?_) ?_) | (refine AltVC.mk ?_ ?_)
                  exact rfK.mk (kk + 1, R2.take (st.length + kk) ++ [r.right.getD (r.right.length - 1 - kk) 0]) (by simp (disch := (first | omega | (simp only [vlen]; first | done | omega))) only [↓vAq, vBq, ↓reduceIte, Nat.reduceBEq, Nat.reduceEqDiff, Nat.reduceLT, Nat.reduceLeDiff, Nat.reduceAdd, Nat.reduceMul, Nat.reduceSub, reduceCtorEq, Int.reduceToNat]) ⟨rfl, by rw [List.take_of_length_le (Nat.le_of_eq hrL)]; exact hrR, Nat.le_of_eq hrL.symm⟩ (by (simp (disch := (first | omega | (simp only [vlen]; first | done | omega))) only [Fits_u, Fits_m, Fits_nil, List.length_append, vac, Nat.add_assoc, ↓vAq, vBq, ↓reduceIte, Nat.reduceBEq, Nat.reduceEqDiff, Nat.reduceLT, Nat.reduceLeDiff, Nat.reduceAdd, Nat.reduceMul, Nat.reduceSub, reduceCtorEq, Int.reduceToNat] <;> (repeat' first | rfl | apply And.intro)))
                · rintro ⟨kk, R2⟩ ⟨e0, y1, y2⟩
                  simp only at e0 y1 y2
                  subst e0
                  have hbl := @bkRows_len r.right
                  rw [hbl] at y1 y2
                  have hlong := hv.long r hqm
                  rw [List.take_of_length_le (l := r.right.reverse) (by simp)] at y1
                  repeat' first | ((first | refine Br.dec ?_ ?_ | refine Br.eqi ?_ ?_) <;> intro h <;> try (exfalso; omega)) | (simp (disch := (first | omega | (simp only [vlen]; first | done | omega))) only [vac, hbl, ↓vAq, vBq, ↓reduceIte, Nat.reduceBEq, Nat.reduceEqDiff, Nat.reduceLT, Nat.reduceLeDiff, Nat.reduceAdd, Nat.reduceMul, Nat.reduceSub, reduceCtorEq, Int.reduceToNat]) | (refine Br.mk ?_ ?_ <;> intro h) | (refine BrN.mk (fun h => ?_) ?_) | (refine AltVC.mk ?_ ?_)
                  exact loopK.mk (⟨r.right ++ st, i, out ++ [(q : Int)]⟩, m', R2) (by simp (disch := (first | omega | (simp only [vlen]; first | done | omega))) only [↓vAq, vBq, ↓reduceIte, Nat.reduceBEq, Nat.reduceEqDiff, Nat.reduceLT, Nat.reduceLeDiff, Nat.reduceAdd, Nat.reduceMul, Nat.reduceSub, reduceCtorEq, Int.reduceToNat]) ⟨by rw [← hre] at hrun' ⊢; exact hrun', p2, fun y hy => (List.mem_append.1 hy).elim (hv.right r hqm y) (fun h => p3 y (by simp [h])), by simp only [List.length_append]; omega, by simp only [List.length_append, List.length_singleton]; omega, by simp only [List.length_append, List.reverse_append]; rw [Nat.add_comm]; exact y1⟩ (by simp only; omega) (by (simp (disch := (first | omega | (simp only [vlen]; first | done | omega))) only [Fits_u, Fits_m, Fits_nil, List.length_append, vac, List.length_append, List.length_singleton, Nat.add_comm, ↓vAq, vBq, ↓reduceIte, Nat.reduceBEq, Nat.reduceEqDiff, Nat.reduceLT, Nat.reduceLeDiff, Nat.reduceAdd, Nat.reduceMul, Nat.reduceSub, reduceCtorEq, Int.reduceToNat] <;> (repeat' first | rfl | apply And.intro)))
              · have hce := sps_stk p1 (fun c' h => by
                  cases h with
                  | eat _ _ _ _ h _ => exact hx h
                  | exp _ _ _ _ q _ h => exact hq ⟨q, h⟩)
                subst hce
                rw [idxOf_miss (Nat.le_refl _) (fun j hj => hmiss j (fun h => hq ⟨j, chs_of hcl hj h⟩))] at hidx
                repeat' first | ((first | refine Br.dec ?_ ?_ | refine Br.eqi ?_ ?_) <;> intro h <;> try (exfalso; omega)) | (simp (disch := (first | omega | (simp only [vlen]; first | done | omega))) only [vac, List.length_cons, Int.add_sub_cancel, Nat.sub_zero, hRx, ↓vAq, vBq, ↓reduceIte, Nat.reduceBEq, Nat.reduceEqDiff, Nat.reduceLT, Nat.reduceLeDiff, Nat.reduceAdd, Nat.reduceMul, Nat.reduceSub, reduceCtorEq, Int.reduceToNat]) | (refine Br.mk ?_ ?_ <;> intro h) | (refine BrN.mk (fun h => ?_) ?_) | (refine AltVC.mk ?_ ?_)
                refine CallVC.eqo hidx (by repeat' first | ((first | refine Br.dec ?_ ?_ | refine Br.eqi ?_ ?_) <;> intro h <;> try (exfalso; omega)) | (simp (disch := (first | omega | (simp only [vlen]; first | done | omega))) only [vac, ↓vAq, vBq, ↓reduceIte, Nat.reduceBEq, Nat.reduceEqDiff, Nat.reduceLT, Nat.reduceLeDiff, Nat.reduceAdd, Nat.reduceMul, Nat.reduceSub, reduceCtorEq, Int.reduceToNat]) | (refine Br.mk ?_ ?_ <;> intro h) | (refine BrN.mk (fun h => ?_) ?_) | (refine AltVC.mk ?_ ?_)) ?_
                repeat' first | ((first | refine Br.dec ?_ ?_ | refine Br.eqi ?_ ?_) <;> intro h <;> try (exfalso; omega)) | (simp (disch := (first | omega | (simp only [vlen]; first | done | omega))) only [vac, List.length_cons, Int.add_sub_cancel, Nat.sub_zero, hRx, ↓vAq, vBq, ↓reduceIte, Nat.reduceBEq, Nat.reduceEqDiff, Nat.reduceLT, Nat.reduceLeDiff, Nat.reduceAdd, Nat.reduceMul, Nat.reduceSub, reduceCtorEq, Int.reduceToNat]) | (refine Br.mk ?_ ?_ <;> intro h) | (refine BrN.mk (fun h => ?_) ?_) | (refine AltVC.mk ?_ ?_)
                exact fin_mk (hres _ (by rw [if_neg (fun h => by cases h.1)]))
  · repeat' first | ((first | refine Br.dec ?_ ?_ | refine Br.eqi ?_ ?_) <;> intro h <;> try (exfalso; omega)) | (simp (disch := (first | omega | (simp only [vlen]; first | done | omega))) only [vac, ↓vAq, vBq, ↓reduceIte, Nat.reduceBEq, Nat.reduceEqDiff, Nat.reduceLT, Nat.reduceLeDiff, Nat.reduceAdd, Nat.reduceMul, Nat.reduceSub, reduceCtorEq, Int.reduceToNat]) | (refine Br.mk ?_ ?_ <;> intro h) | (refine BrN.mk (fun h => ?_) ?_) | (refine AltVC.mk ?_ ?_)
    refine CallVC.eq hch ?_
    repeat' first | ((first | refine Br.dec ?_ ?_ | refine Br.eqi ?_ ?_) <;> intro h <;> try (exfalso; omega)) | (simp (disch := (first | omega | (simp only [vlen]; first | done | omega))) only [vac, ↓vAq, vBq, ↓reduceIte, Nat.reduceBEq, Nat.reduceEqDiff, Nat.reduceLT, Nat.reduceLeDiff, Nat.reduceAdd, Nat.reduceMul, Nat.reduceSub, reduceCtorEq, Int.reduceToNat]) | (refine Br.mk ?_ ?_ <;> intro h) | (refine BrN.mk (fun h => ?_) ?_) | (refine AltVC.mk ?_ ?_)
    exact fin_mk ⟨fun _ => rfl, fun h => absurd h hc, fun h => absurd h hc⟩
end Go.Proofs.Ytplkkacfjepgpaa
