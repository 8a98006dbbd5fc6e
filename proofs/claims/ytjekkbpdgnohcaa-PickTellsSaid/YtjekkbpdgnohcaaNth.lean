/-
  pick.nth: the steps of the tree that stands at a place.
-/
import Derived.Test.YtjekkbpdgnohcaaMny
namespace Go.Proofs.Ytjekkbpdgnohcaa
open Go.Dm
set_option linter.unusedSimpArgs false
set_option linter.unnecessarySimpa false
set_option linter.unusedVariables false
set_option linter.defProp false
theorem FinH_frz {n0 : Nat} {R : D → List (Option Ob) → Prop} {s : S} {d : D} {τ : Nat} {ob : Ob} (hN : τ < s.N) (hM : s.M τ = some ob) (hf : ob.flat = true) (hk : ob.kd.isMap = false) (h : FinH n0 R (s.frz τ ob) (d.frz τ ob)) : FinH n0 R s d := by
  obtain ⟨s', g, l, h1, h2, h3, h4, h5⟩ := h
  exact ⟨s', _, l, .step _ _ _ _ _ (.frz s τ ob hN hM hf hk) h1, h2, h3, h4, h5⟩
set_option maxRecDepth 10000 in
set_option maxHeartbeats 4000000 in
theorem cutsC_spec (n i j : Nat) : Dm.Spec Try.prog 46 [iv .i64 n, .ag [iv .i64 i, iv .i64 j]] (· = .clo cutF [.ip [iv .i64 n] 0, .ip [iv .i64 i, iv .i64 j] 0]) := by
  refine spec_of_vc mixed Try.func46 c46 (by rw [show Try.f46.ntmps = _ from Try.ntmps46]; simp) ?_
  unfold m46 r46
  repeat' first | ((first | refine Br.dec ?_ ?_ | refine Br.eqi ?_ ?_) <;> intro h <;> try (exfalso; omega)) | (simp (disch := (first | omega | (simp only [vlen]; first | done | omega))) only [vmy, ↓vAq, vBq, ↓reduceIte, Nat.reduceBEq, Nat.reduceEqDiff, Nat.reduceLT, Nat.reduceLeDiff, Nat.reduceAdd, Nat.reduceMul, Nat.reduceSub, reduceCtorEq, Int.reduceToNat]) | (refine Br.mk ?_ ?_ <;> intro h) | (refine BrN.mk (fun h => ?_) ?_) | (refine AltVC.mk ?_ ?_)
  refine fin_frz 0 ?_
  repeat' first | ((first | refine Br.dec ?_ ?_ | refine Br.eqi ?_ ?_) <;> intro h <;> try (exfalso; omega)) | (simp (disch := (first | omega | (simp only [vlen]; first | done | omega))) only [vmy, ↓vAq, vBq, ↓reduceIte, Nat.reduceBEq, Nat.reduceEqDiff, Nat.reduceLT, Nat.reduceLeDiff, Nat.reduceAdd, Nat.reduceMul, Nat.reduceSub, reduceCtorEq, Int.reduceToNat]) | (refine Br.mk ?_ ?_ <;> intro h) | (refine BrN.mk (fun h => ?_) ?_) | (refine AltVC.mk ?_ ?_)
  refine fin_frz 1 ?_
  repeat' first | ((first | refine Br.dec ?_ ?_ | refine Br.eqi ?_ ?_) <;> intro h <;> try (exfalso; omega)) | (simp (disch := (first | omega | (simp only [vlen]; first | done | omega))) only [vmy, ↓vAq, vBq, ↓reduceIte, Nat.reduceBEq, Nat.reduceEqDiff, Nat.reduceLT, Nat.reduceLeDiff, Nat.reduceAdd, Nat.reduceMul, Nat.reduceSub, reduceCtorEq, Int.reduceToNat]) | (refine Br.mk ?_ ?_ <;> intro h) | (refine BrN.mk (fun h => ?_) ?_) | (refine AltVC.mk ?_ ?_)
  exact fin_mk rfl
theorem dropC {α : Type} {l : List α} {m : Nat} {d : α} (h : m < l.length) : l.drop m = l.getD m d :: l.drop (m + 1) := by
  rw [List.drop_eq_getElem_cons h]; simp [List.getD, h]
theorem last_stA {i e : Nat} : ∀ {es : List Nat}, es.getLast? = some e → stA i es es.length = e := fun {es} h => by
  have hne : es ≠ [] := fun e0 => by rw [e0] at h; cases h
  have hl := List.length_pos_iff.2 hne
  rw [List.getLast?_eq_getElem?] at h
  unfold stA
  rw [if_neg (by omega), List.getD_eq_getElem?_getD, h]; rfl
theorem tk_steps {g : Grammar} {w : List Int} (hp : Proper g) {l : List Int} {i : Nat} {es : List Nat} {st : List Int} {K : Nat} (h : Tk g w l i es st K) : st.length + l.length + 2 * i ≤ 2 * stA i es es.length := by
  induction h with
  | nil => simp [stA]
  | @sym x l i es st K hx hw h ih =>
    rw [List.length_cons, List.length_cons, stA_cons]; omega
  | @name x l i e es q c s1 s2 K1 K2 hx hq hc h1 h2 ih1 ih2 =>
    have hm := getD_cut hc
    rw [last_stA (cutN_last hm)] at ih1
    have hne := hp _ (getD_mem' (l := g.rules) (i := q) (rule_lt hq))
    have hl := List.length_pos_iff.2 hne.1
    rw [show (e :: es).length = es.length + 1 from rfl, stA_cons, List.length_cons, List.cons_append, List.length_cons, List.length_append]
    by_cases h3 : (g.rules.getD q default).right.length = 1
    · have h4 : s1 = [] := by
        match hr : (g.rules.getD q default).right, h3 with
        | [s], _ =>
          rw [hr] at h1
          have hs := hne.2 s hr
          generalize (cutN ([s].length - 1) i e).getD c [] = own at h1
          cases h1 with
          | sym _ _ h5 => cases h5; rfl
          | name h5 => exact absurd hs h5
      subst h4
      simp only [List.length_nil] at ih1 ⊢
      omega
    · omega
def nthR (g : Grammar) (w : List Int) (x : Int) (i j r : Nat) (d : D) (o : List (Option Ob)) : Prop := ∃ st L, Tk g w [x] i [j] st r ∧ (d = .sl 1 (i64s st) ∨ (d = .nl ∧ st = [])) ∧ o = (coO g w L).map some ∧ MI g w L
def nthP (g : Grammar) (w : List Int) (x : Int) (i j : Nat) : Prop := ∀ r, r < trees g w x i j → ∀ L, MI g w L → Dm.SpecH Try.prog 26 [.ptr 0 6 0 0, iv .i64 x, .ag [iv .i64 i, iv .i64 j], iv .i64 r] (coO g w L) (nthR g w x i j r)
theorem sym_tree {g : Grammar} {w : List Int} {x : Int} {i j r : Nat} (hx : x < g.k) (hr : r < trees g w x i j) : r = 0 ∧ j = i + 1 ∧ w.getD i 0 = x := by
  rw [trees_sym hx] at hr
  unfold symV at hr
  split at hr
  · next h => exact ⟨by omega, h⟩
  · omega
set_option maxRecDepth 10000 in
set_option maxHeartbeats 4000000 in
theorem nthS_spec (g : Grammar) (w : List Int) (hc : CC g w) (x : Int) (hx : x < g.k) (i j r : Nat) (hr : r < trees g w x i j) (L : List KE) (hL : MI g w L) : Dm.SpecH Try.prog 26 [.ptr 0 6 0 0, iv .i64 x, .ag [iv .i64 i, iv .i64 j], iv .i64 r] (coO g w L) (nthR g w x i j r) := by
  refine specH_of_vc mixed Try.func26 c26 (by rw [show Try.f26.ntmps = _ from Try.ntmps26]; simp) ?_
  unfold m26 r26
  obtain ⟨h1, h2, h3⟩ := sym_tree hx hr
  have hT : Tk g w [x] i [j] [] r := by subst h1 h2; exact .sym hx h3 (.nil _)
  unfold coO
  repeat' first | ((first | refine Br.dec ?_ ?_ | refine Br.eqi ?_ ?_) <;> intro h <;> try (exfalso; omega)) | (simp (disch := (first | omega | (simp only [vlen]; first | done | omega))) only [vmy, ↓vAq, vBq, ↓reduceIte, Nat.reduceBEq, Nat.reduceEqDiff, Nat.reduceLT, Nat.reduceLeDiff, Nat.reduceAdd, Nat.reduceMul, Nat.reduceSub, reduceCtorEq, Int.reduceToNat]) | (refine Br.mk ?_ ?_ <;> intro h) | (refine BrN.mk (fun h => ?_) ?_) | (refine AltVC.mk ?_ ?_)
  exact finH_mk ((coO g w L).map some) (by simp [coO]) (by simp [coO]; simp (disch := (first | omega | (simp only [vlen]; first | done | omega))) only [vmy, ↓vAq, vBq, ↓reduceIte, Nat.reduceBEq, Nat.reduceEqDiff, Nat.reduceLT, Nat.reduceLeDiff, Nat.reduceAdd, Nat.reduceMul, Nat.reduceSub, reduceCtorEq, Int.reduceToNat]) (by unfold coO; simp (disch := (first | omega | (simp only [vlen]; first | done | omega))) only [vmy, ↓vAq, vBq, ↓reduceIte, Nat.reduceBEq, Nat.reduceEqDiff, Nat.reduceLT, Nat.reduceLeDiff, Nat.reduceAdd, Nat.reduceMul, Nat.reduceSub, reduceCtorEq, Int.reduceToNat]) ⟨[], L, hT, .inr ⟨by simp (disch := (first | omega | (simp only [vlen]; first | done | omega))) only [vmy, ↓vAq, vBq, ↓reduceIte, Nat.reduceBEq, Nat.reduceEqDiff, Nat.reduceLT, Nat.reduceLeDiff, Nat.reduceAdd, Nat.reduceMul, Nat.reduceSub, reduceCtorEq, Int.reduceToNat], rfl⟩, rfl, hL⟩
def nlO (g : Grammar) (w : List Int) (L : List KE) (i j r : Nat) : List (Nat × Ob) := [(0, ⟨6, [[iv .i64 g.k, iv .i64 g.n, iv .i64 g.start, .sl 2 (tbl rulD g.rules), .sl 1 (i64s w), .mp 1]], false, false, .fix⟩), (1, ⟨5, tbl keD L, true, false, .map [.i64, .i64, .i64, .i64] true false⟩),
  (2, ⟨1, [[.ptr 0 6 0 0]], false, false, .fix⟩), (3, ⟨2, [[iv .i64 i, iv .i64 j]], true, false, .fix⟩), (4, ⟨1, [[iv .i64 r]], true, false, .fix⟩), (5, ⟨1, [[.nl]], true, false, .fix⟩)]
def nrO (g : Grammar) (w : List Int) (L : List KE) (i j r q : Nat) : List (Nat × Ob) := nlO g w L i j r ++ [(6, ⟨1, [[iv .i64 q]], true, false, .fix⟩), (7, ⟨2, [[iv .i64 (g.rules.getD q default).left, .sl 1 (i64s (g.rules.getD q default).right)]], true, false, .fix⟩)]
def nsO (g : Grammar) (w : List Int) (L : List KE) (i j r q τ : Nat) (acc : List Int) : List (Nat × Ob) := nrO g w L i j r q ++ [(τ, ⟨1, i64s ((q : Int) :: acc), true, false, .arr⟩)]
theorem rlB_succ {g : Grammar} {w : List Int} {x : Int} {i j q : Nat} : rlB g w x i j (q + 1) = rlB g w x i j q + ruleV g w x i j q := (rfl)
set_option maxRecDepth 10000 in
set_option maxHeartbeats 4000000 in
theorem nthN_spec (g : Grammar) (w : List Int) (hc : CC g w) (x : Int) (hx : ¬ x < g.k) (hx2 : x < g.k + g.n) (i j : Nat) (hij : i ≤ j) (hj : j ≤ w.length) (hT : trees g w x i j ≤ 1099511627776) (ih : ∀ x' i' j', 0 ≤ x' → x' < g.k + g.n → i' ≤ j' → j' ≤ w.length → (x' < g.k ∨ j' - i' < j - i) → trees g w x' i' j' ≤ 1099511627776 → nthP g w x' i' j') (r : Nat) (hr : r < trees g w x i j) (L : List KE) (hL : MI g w L) : Dm.SpecH Try.prog 26 [.ptr 0 6 0 0, iv .i64 x, .ag [iv .i64 i, iv .i64 j], iv .i64 r] (coO g w L) (nthR g w x i j r) := by
  refine specH_of_vc mixed Try.func26 c26 (by rw [show Try.f26.ntmps = _ from Try.ntmps26]; simp) ?_
  unfold m26 r26
  have hk := hc.v.k
  have hn := hc.v.n
  have hw := hc.w
  have hlen := hc.v.len
  unfold coO
  repeat' first | ((first | refine Br.dec ?_ ?_ | refine Br.eqi ?_ ?_) <;> intro h <;> try (exfalso; omega)) | (simp (disch := (first | omega | (simp only [vlen]; first | done | omega))) only [vmy, ↓vAq, vBq, ↓reduceIte, Nat.reduceBEq, Nat.reduceEqDiff, Nat.reduceLT, Nat.reduceLeDiff, Nat.reduceAdd, Nat.reduceMul, Nat.reduceSub, reduceCtorEq, Int.reduceToNat]) | (refine Br.mk ?_ ?_ <;> intro h) | (refine BrN.mk (fun h => ?_) ?_) | (refine AltVC.mk ?_ ?_)
  refine LoopVC.mk (X := Nat × List KE) (fun y => [(31, iv .i64 y.1)]) (fun y => nlO g w y.2 i j (r - rlB g w x i j y.1)) (fun y => g.rules.length - y.1) (fun y => y.1 ≤ g.rules.length ∧ MI g w y.2 ∧ rlB g w x i j y.1 ≤ r) (0, L) ⟨Nat.zero_le _, hL, Nat.zero_le _⟩ ?_ ?_
  · unfold nlO
    (simp (disch := (first | omega | (simp only [vlen]; first | done | omega))) only [Fits_u, Fits_m, Fits_nil, List.length_append, vmy, ↓vAq, vBq, ↓reduceIte, Nat.reduceBEq, Nat.reduceEqDiff, Nat.reduceLT, Nat.reduceLeDiff, Nat.reduceAdd, Nat.reduceMul, Nat.reduceSub, reduceCtorEq, Int.reduceToNat] <;> (repeat' first | rfl | apply And.intro))
    all_goals first | rfl | trace_state
  · rintro ⟨q, Lx⟩ ⟨hq1, hLx, hqr⟩
    simp only at hq1 hLx hqr ⊢
    unfold nlO
    by_cases hq : q < g.rules.length
    · have hm : g.rules.getD q default ∈ g.rules := getD_mem' hq
      have hlong := hc.v.long _ hm
      have hright := hc.v.right _ hm
      have hleft := hc.v.left _ hm
      have hsu := @rlB_succ g w x i j q
      by_cases hlx : (g.rules.getD q default).left = x - g.k
      · have hRA : RuleAt g x q := ⟨by omega, by omega, by rw [Int.toNat_natCast]; exact hlx⟩
        have hne := right_ne hc.p hq
        have hrl : 0 < (g.rules.getD q default).right.length := List.length_pos_iff.2 hne
        have hrow := rlB_row hc.p (w := w) (i := i) (j := j) hx hRA
        have hcs := cut_sum (g := g) (w := w) _ i j hne
        repeat' first | ((first | refine Br.dec ?_ ?_ | refine Br.eqi ?_ ?_) <;> intro h <;> try (exfalso; omega)) | (simp (disch := (first | omega | (simp only [vlen]; first | done | omega))) only [vmy, ↓vAq, vBq, ↓reduceIte, Nat.reduceBEq, Nat.reduceEqDiff, Nat.reduceLT, Nat.reduceLeDiff, Nat.reduceAdd, Nat.reduceMul, Nat.reduceSub, reduceCtorEq, Int.reduceToNat]) | (refine Br.mk ?_ ?_ <;> intro h) | (refine BrN.mk (fun h => ?_) ?_) | (refine AltVC.mk ?_ ?_)
        refine CallVC.eq (cutsC_spec _ i j) ?_
        repeat' first | ((first | refine Br.dec ?_ ?_ | refine Br.eqi ?_ ?_) <;> intro h <;> try (exfalso; omega)) | (simp (disch := (first | omega | (simp only [vlen]; first | done | omega))) only [vmy, ↓vAq, vBq, ↓reduceIte, Nat.reduceBEq, Nat.reduceEqDiff, Nat.reduceLT, Nat.reduceLeDiff, Nat.reduceAdd, Nat.reduceMul, Nat.reduceSub, reduceCtorEq, Int.reduceToNat]) | (refine Br.mk ?_ ?_ <;> intro h) | (refine BrN.mk (fun h => ?_) ?_) | (refine AltVC.mk ?_ ?_)
        refine RfVC.mk (cutRows ((g.rules.getD q default).right.length - 1) i j) (fun _ => []) (fun y : Nat × List KE => nrO g w y.2 i j y.1 q) (fun k y => MI g w y.2 ∧ rlB g w x i j q + sumL (prT g w (g.rules.getD q default).right i) ((cutN ((g.rules.getD q default).right.length - 1) i j).take k) + y.1 = r) (r - rlB g w x i j q, Lx) ?_ ?_ ⟨hLx, by simp only [List.take_zero, sumL]; omega⟩ ?_ (fun _ => rfl) ?_ ?_
        · repeat' first | ((first | refine Br.dec ?_ ?_ | refine Br.eqi ?_ ?_) <;> intro h <;> try (exfalso; omega)) | (simp (disch := (first | omega | (simp only [vlen]; first | done | omega))) only [vmy, ↓vAq, vBq, ↓reduceIte, Nat.reduceBEq, Nat.reduceEqDiff, Nat.reduceLT, Nat.reduceLeDiff, Nat.reduceAdd, Nat.reduceMul, Nat.reduceSub, reduceCtorEq, Int.reduceToNat]) | (refine Br.mk ?_ ?_ <;> intro h) | (refine BrN.mk (fun h => ?_) ?_) | (refine AltVC.mk ?_ ?_)
          have := cuts_it ((g.rules.getD q default).right.length - 1) i j (by omega) (by omega) (by omega)
          rw [show (g.rules.getD q default).right.length - 1 + 1 = (g.rules.getD q default).right.length by omega] at this
          exact IterD.mk (by simp only [List.all_cons, List.all_nil, Bool.and_true]; unfold D.cl; rw [alls_leaf rfl, alls_leaf rfl]; rfl) this
        · intro row hrow'
          obtain ⟨c, _, rfl⟩ := List.mem_map.1 hrow'
          rfl
        · unfold nrO nlO
          (simp (disch := (first | omega | (simp only [vlen]; first | done | omega))) only [Fits_u, Fits_m, Fits_nil, List.length_append, vmy, ↓vAq, vBq, ↓reduceIte, Nat.reduceBEq, Nat.reduceEqDiff, Nat.reduceLT, Nat.reduceLeDiff, Nat.reduceAdd, Nat.reduceMul, Nat.reduceSub, reduceCtorEq, Int.reduceToNat] <;> (repeat' first | rfl | apply And.intro))
          all_goals first | rfl | trace_state
        · rintro c ⟨rem, Ly⟩ hcl ⟨hLy, hrem⟩
          rw [cutRows_len] at hcl
          simp only at hLy hrem ⊢
          rw [cutRows_get hcl]
          have hmem := getD_cut hcl
          have hmono := cutN_mono hij hmem
          have hol := cutN_len hmem
          have hpl := sumL_take (f := prT g w (g.rules.getD q default).right i) (d := []) hcl
          have hps := sumL_take_succ (f := prT g w (g.rules.getD q default).right i) (d := []) hcl
          have hshort := cutN_short hmem
          generalize hown : (cutN ((g.rules.getD q default).right.length - 1) i j).getD c [] = own at hmem hmono hol hpl hps hshort ⊢
          have hcp : cp (prT g w (g.rules.getD q default).right i own) = prT g w (g.rules.getD q default).right i own := by unfold cp; omega
          have hown1 : ∀ e, e ∈ own → e ≤ 1000 := fun e he => by
            obtain ⟨k, hk, rfl⟩ := List.getElem_of_mem he
            have := (hmono.get hk).2
            rw [List.getD_eq_getElem?_getD, List.getElem?_eq_getElem hk] at this
            exact Nat.le_trans this (by omega)
          unfold nrO nlO
          repeat' first | ((first | refine Br.dec ?_ ?_ | refine Br.eqi ?_ ?_) <;> intro h <;> try (exfalso; omega)) | (simp (disch := (first | omega | (simp only [vlen]; first | done | omega))) only [vmy, ↓vAq, vBq, ↓reduceIte, Nat.reduceBEq, Nat.reduceEqDiff, Nat.reduceLT, Nat.reduceLeDiff, Nat.reduceAdd, Nat.reduceMul, Nat.reduceSub, reduceCtorEq, Int.reduceToNat]) | (refine Br.mk ?_ ?_ <;> intro h) | (refine BrN.mk (fun h => ?_) ?_) | (refine AltVC.mk ?_ ?_)
          refine CallVC.eq (ranges_spec i own (by omega) (by omega) hown1) ?_
          repeat' first | ((first | refine Br.dec ?_ ?_ | refine Br.eqi ?_ ?_) <;> intro h <;> try (exfalso; omega)) | (simp (disch := (first | omega | (simp only [vlen]; first | done | omega))) only [vmy, ↓vAq, vBq, ↓reduceIte, Nat.reduceBEq, Nat.reduceEqDiff, Nat.reduceLT, Nat.reduceLeDiff, Nat.reduceAdd, Nat.reduceMul, Nat.reduceSub, reduceCtorEq, Int.reduceToNat]) | (refine Br.mk ?_ ?_ <;> intro h) | (refine BrN.mk (fun h => ?_) ?_) | (refine AltVC.mk ?_ ?_)
          refine CallVC.lendE [0, 1] [.ptr 0 6 0 0, .sl 1 (i64s (g.rules.getD q default).right), .sl 2 (tbl rgD (rgs i own))] (coO g w Ly) (many_spec g w hc _ i j own (by omega) (by omega) hright hmono hj Ly hLy) (by simp) (by rfl) (by unfold coO; (simp (disch := (first | omega | (simp only [vlen]; first | done | omega))) only [vle0, ↓vAq, vBq, ↓reduceIte, Nat.reduceBEq, Nat.reduceEqDiff, Nat.reduceLT, Nat.reduceLeDiff, Nat.reduceAdd, Nat.reduceMul, Nat.reduceSub, reduceCtorEq, Int.reduceToNat] <;> (repeat' first | rfl | apply And.intro))) ?_
          rintro _ _ ⟨L2, rfl, rfl, hL2⟩
          unfold coO
          rw [hcp]
          repeat' first | ((first | refine Br.dec ?_ ?_ | refine Br.eqi ?_ ?_) <;> intro h <;> try (exfalso; omega)) | (simp (disch := (first | omega | (simp only [vlen]; first | done | omega))) only [vmy, ↓vAq, vBq, ↓reduceIte, Nat.reduceBEq, Nat.reduceEqDiff, Nat.reduceLT, Nat.reduceLeDiff, Nat.reduceAdd, Nat.reduceMul, Nat.reduceSub, reduceCtorEq, Int.reduceToNat]) | (refine Br.mk ?_ ?_ <;> intro h) | (refine BrN.mk (fun h => ?_) ?_) | (refine AltVC.mk ?_ ?_)
          · refine rfK.mk (rem - prT g w (g.rules.getD q default).right i own, L2) (by simp (disch := (first | omega | (simp only [vlen]; first | done | omega))) only [↓vAq, vBq, ↓reduceIte, Nat.reduceBEq, Nat.reduceEqDiff, Nat.reduceLT, Nat.reduceLeDiff, Nat.reduceAdd, Nat.reduceMul, Nat.reduceSub, reduceCtorEq, Int.reduceToNat]) ⟨hL2, by show _ + _ + (rem - _) = r; rw [hps]; omega⟩ ?_
            have hsub : (rem : Int) - (prT g w (g.rules.getD q default).right i own : Nat) = ((rem - prT g w (g.rules.getD q default).right i own : Nat) : Int) := by omega
            (simp (disch := (first | omega | (simp only [vlen]; first | done | omega))) only [Fits_u, Fits_m, Fits_nil, List.length_append, vmy, hsub, ↓vAq, vBq, ↓reduceIte, Nat.reduceBEq, Nat.reduceEqDiff, Nat.reduceLT, Nat.reduceLeDiff, Nat.reduceAdd, Nat.reduceMul, Nat.reduceSub, reduceCtorEq, Int.reduceToNat] <;> (repeat' first | rfl | apply And.intro))
          · have hlt : rem < prT g w (g.rules.getD q default).right i own := by omega
            refine LoopVC.mk (X := Nat × Nat × List Int × List KE) (fun y => [(14, .ref 8 1 0 (y.2.2.1.length + 1)), (72, iv .i64 y.1)]) (fun y => nsO g w y.2.2.2 i j y.2.1 q 8 y.2.2.1) (fun y => (g.rules.getD q default).right.length - y.1)
              (fun y => y.1 ≤ (g.rules.getD q default).right.length ∧ MI g w y.2.2.2 ∧ y.2.1 < prT g w ((g.rules.getD q default).right.drop y.1) (stA i own y.1) (own.drop y.1) ∧ prT g w ((g.rules.getD q default).right.drop y.1) (stA i own y.1) (own.drop y.1) ≤ 1099511627776 ∧ y.2.2.1.length ≤ 1000000 * y.1 ∧ ∀ st2, Tk g w ((g.rules.getD q default).right.drop y.1) (stA i own y.1) (own.drop y.1) st2 y.2.1 → Tk g w (g.rules.getD q default).right i own (y.2.2.1 ++ st2) rem) (0, rem, [], L2) ⟨Nat.zero_le _, hL2, hlt, by show prT g w (g.rules.getD q default).right i own ≤ _; omega, by simp, fun st2 h => h⟩ ?_ ?_
            · unfold nsO nrO nlO
              (simp (disch := (first | omega | (simp only [vlen]; first | done | omega))) only [Fits_u, Fits_m, Fits_nil, List.length_append, vmy, ↓vAq, vBq, ↓reduceIte, Nat.reduceBEq, Nat.reduceEqDiff, Nat.reduceLT, Nat.reduceLeDiff, Nat.reduceAdd, Nat.reduceMul, Nat.reduceSub, reduceCtorEq, Int.reduceToNat] <;> (repeat' first | rfl | apply And.intro))
              all_goals first | rfl | trace_state
            · rintro ⟨m, idx, acc, Lz⟩ ⟨hm1, hLz, hidx, hib, hal, hcont⟩
              simp only at hm1 hLz hidx hib hal hcont ⊢
              unfold nsO nrO nlO
              by_cases hmr : m < (g.rules.getD q default).right.length
              · have hmo : m < own.length := by omega
                have hsA : stA i own (m + 1) = own.getD m 0 := by unfold stA; rw [if_neg (by omega), Nat.add_sub_cancel]
                have hd1 : (g.rules.getD q default).right.drop m = (g.rules.getD q default).right.getD m 0 :: (g.rules.getD q default).right.drop (m + 1) := by
                  exact dropC hmr
                have hd2 : own.drop m = own.getD m 0 :: own.drop (m + 1) := by
                  exact dropC hmo
                rw [hd1, hd2] at hidx hib hcont
                rw [prT_cons] at hidx hib
                have hmd := hmono.drop (k := m + 1) (by omega)
                have htk : List.take own.length (rgs i own) = rgs i own := List.take_of_length_le (by rw [rgs_len]; exact Nat.le_refl _)
                have hrd := @rgs_drop own i (m + 1) (by omega)
                have hrg := @rgs_get own i m hmo
                have hgm := hmono.get hmo
                have hxm := hright _ (getD_mem (l := (g.rules.getD q default).right) (i := m) (d := 0) hmr)
                have hmany := many_spec g w hc ((g.rules.getD q default).right.drop (m + 1)) (stA i own (m + 1)) j (own.drop (m + 1)) (by rw [List.length_drop, List.length_drop]; omega) (by rw [List.length_drop]; omega) (fun y hy => hright y (List.mem_of_mem_drop hy)) hmd hj Lz hLz
                have hrl2 : (rgs i own).length = own.length := rgs_len
                rw [← hsA] at hidx hib hcont
                generalize hrest : prT g w ((g.rules.getD q default).right.drop (m + 1)) (stA i own (m + 1)) (own.drop (m + 1)) = rest at hidx hib hmany
                have hr0 : 0 < rest := by
                  rcases Nat.eq_zero_or_pos rest with h0 | h0
                  · rw [h0, Nat.mul_zero] at hidx; exact absurd hidx (Nat.not_lt_zero _)
                  · exact h0
                have hT0 : 0 < trees g w ((g.rules.getD q default).right.getD m 0) (stA i own m) (stA i own (m + 1)) := by
                  rcases Nat.eq_zero_or_pos (trees g w ((g.rules.getD q default).right.getD m 0) (stA i own m) (stA i own (m + 1))) with h0 | h0
                  · rw [h0, Nat.zero_mul] at hidx; exact absurd hidx (Nat.not_lt_zero _)
                  · exact h0
                have hTle := Nat.le_mul_of_pos_right (trees g w ((g.rules.getD q default).right.getD m 0) (stA i own m) (stA i own (m + 1))) hr0
                have hrle := Nat.le_mul_of_pos_left rest hT0
                have hcr : cp rest = rest := by unfold cp; omega
                have hdiv : idx / rest < trees g w ((g.rules.getD q default).right.getD m 0) (stA i own m) (stA i own (m + 1)) := Nat.div_lt_of_lt_mul (by rw [Nat.mul_comm]; exact hidx)
                have hmod := Nat.mod_lt idx hr0
                have hde : idx / rest * rest + idx % rest = idx := by rw [Nat.mul_comm]; exact Nat.div_add_mod idx rest
                have hI1 : (idx : Int) / (rest : Int) = ((idx / rest : Nat) : Int) := (Int.natCast_ediv idx rest).symm
                have hI2 : (idx : Int) % (rest : Int) = ((idx % rest : Nat) : Int) := (Int.natCast_emod idx rest).symm
                have hdle := Nat.div_le_self idx rest
                generalize idx / rest = dv at hdiv hde hI1 hdle
                generalize idx % rest = md at hmod hde hI2
                have hsm : (g.rules.getD q default).right.getD m 0 < g.k ∨ stA i own (m + 1) - stA i own m < j - i := by
                  by_cases h1 : (g.rules.getD q default).right.length = 1
                  · left
                    have h2 := hc.p _ (getD_mem' (l := g.rules) (i := q) hq)
                    refine h2.2 _ ?_
                    match hr : (g.rules.getD q default).right, h1 with
                    | [s], _ =>
                      rw [hr] at hmr
                      have : m = 0 := by simpa using hmr
                      subst this; rfl
                  · right
                    rw [hsA]
                    exact hshort m hmo (by omega)
                have hn2 := ih _ (stA i own m) (stA i own (m + 1)) hxm.1 hxm.2 (by rw [hsA]; exact hgm.1) (by rw [hsA]; omega) hsm (by omega) dv hdiv
                repeat' first | ((first | refine Br.dec ?_ ?_ | refine Br.eqi ?_ ?_) <;> intro h <;> try (exfalso; omega)) | (simp (disch := (first | omega | (simp only [vlen]; first | done | omega))) only [vmy, htk, hrd, ↓vAq, vBq, ↓reduceIte, Nat.reduceBEq, Nat.reduceEqDiff, Nat.reduceLT, Nat.reduceLeDiff, Nat.reduceAdd, Nat.reduceMul, Nat.reduceSub, reduceCtorEq, Int.reduceToNat]) | (refine Br.mk ?_ ?_ <;> intro h) | (refine BrN.mk (fun h => ?_) ?_) | (refine AltVC.mk ?_ ?_)
                refine CallVC.lendE [0, 1] [.ptr 0 6 0 0, .sl 1 (i64s ((g.rules.getD q default).right.drop (m + 1))), .sl 2 (tbl rgD (rgs (stA i own (m + 1)) (own.drop (m + 1))))] (coO g w Lz) hmany (by simp) (by rfl) (by unfold coO; (simp (disch := (first | omega | (simp only [vlen]; first | done | omega))) only [vle0, ↓vAq, vBq, ↓reduceIte, Nat.reduceBEq, Nat.reduceEqDiff, Nat.reduceLT, Nat.reduceLeDiff, Nat.reduceAdd, Nat.reduceMul, Nat.reduceSub, reduceCtorEq, Int.reduceToNat] <;> (repeat' first | rfl | apply And.intro))) ?_
                rintro _ _ ⟨L3, rfl, rfl, hL3⟩
                unfold coO
                rw [hcr]
                rw [hsA] at hn2
                have hwr : IntKind.i64.wrap ((dv : Nat) : Int) = ((dv : Nat) : Int) := wrap64_id (by omega)
                repeat' first | ((first | refine Br.dec ?_ ?_ | refine Br.eqi ?_ ?_) <;> intro h <;> try (exfalso; omega)) | (simp (disch := (first | omega | (simp only [vlen]; first | done | omega))) only [vmy, hrg, hI1, hwr, ↓vAq, vBq, ↓reduceIte, Nat.reduceBEq, Nat.reduceEqDiff, Nat.reduceLT, Nat.reduceLeDiff, Nat.reduceAdd, Nat.reduceMul, Nat.reduceSub, reduceCtorEq, Int.reduceToNat]) | (refine Br.mk ?_ ?_ <;> intro h) | (refine BrN.mk (fun h => ?_) ?_) | (refine AltVC.mk ?_ ?_)
                refine CallVC.lendE [0, 1] [.ptr 0 6 0 0, iv .i64 ((g.rules.getD q default).right.getD m 0), .ag [iv .i64 (stA i own m), iv .i64 (own.getD m 0)], iv .i64 (dv : Nat)] (coO g w L3) (hn2 L3 hL3) (by simp) (by rfl) (by unfold coO; (simp (disch := (first | omega | (simp only [vlen]; first | done | omega))) only [vle0, ↓vAq, vBq, ↓reduceIte, Nat.reduceBEq, Nat.reduceEqDiff, Nat.reduceLT, Nat.reduceLeDiff, Nat.reduceAdd, Nat.reduceMul, Nat.reduceSub, reduceCtorEq, Int.reduceToNat] <;> (repeat' first | rfl | apply And.intro))) ?_
                rintro _ _ ⟨st1, L4, hst1, hres, rfl, hL4⟩
                have hnext : ∀ st2, Tk g w ((g.rules.getD q default).right.drop (m + 1)) (stA i own (m + 1)) (own.drop (m + 1)) st2 md → Tk g w (g.rules.getD q default).right i own ((acc ++ st1) ++ st2) rem := fun st2 h2 => by
                  rw [List.append_assoc]
                  refine hcont _ ?_
                  have := Tk.cons (by rw [hsA]; exact hst1) h2
                  rw [hrest, hde] at this
                  exact this
                have hlen1 : st1.length ≤ 1000000 := by
                  have := tk_steps hc.p hst1
                  simp only [List.length_singleton, stA, Nat.one_ne_zero, if_false, Nat.sub_self, List.getD_cons_zero] at this
                  omega
                unfold coO
                rcases hres with rfl | ⟨rfl, rfl⟩
                · repeat' first | ((first | refine Br.dec ?_ ?_ | refine Br.eqi ?_ ?_) <;> intro h <;> try (exfalso; omega)) | (simp (disch := (first | omega | (simp only [vlen]; first | done | omega))) only [vmy, hI2, ↓vAq, vBq, ↓reduceIte, Nat.reduceBEq, Nat.reduceEqDiff, Nat.reduceLT, Nat.reduceLeDiff, Nat.reduceAdd, Nat.reduceMul, Nat.reduceSub, reduceCtorEq, Int.reduceToNat]) | (refine Br.mk ?_ ?_ <;> intro h) | (refine BrN.mk (fun h => ?_) ?_) | (refine AltVC.mk ?_ ?_)
                  refine loopK.mk (m + 1, md, acc ++ st1, L4) (by simp (disch := (first | omega | (simp only [vlen]; first | done | omega))) only [↓vAq, vBq, ↓reduceIte, Nat.reduceBEq, Nat.reduceEqDiff, Nat.reduceLT, Nat.reduceLeDiff, Nat.reduceAdd, Nat.reduceMul, Nat.reduceSub, reduceCtorEq, Int.reduceToNat]) ⟨by show m + 1 ≤ _; omega, hL4, by rw [hrest]; exact hmod, by rw [hrest]; omega, by show (acc ++ st1).length ≤ 1000000 * (m + 1); rw [List.length_append]; omega, hnext⟩ (by show (g.rules.getD q default).right.length - (m + 1) < (g.rules.getD q default).right.length - m; omega) ?_
                  (simp (disch := (first | omega | (simp only [vlen]; first | done | omega))) only [Fits_u, Fits_m, Fits_nil, List.length_append, vmy, hI2, ↓vAq, vBq, ↓reduceIte, Nat.reduceBEq, Nat.reduceEqDiff, Nat.reduceLT, Nat.reduceLeDiff, Nat.reduceAdd, Nat.reduceMul, Nat.reduceSub, reduceCtorEq, Int.reduceToNat] <;> (repeat' first | rfl | apply And.intro))
                  all_goals first | rfl | (congr 1; omega)
                · repeat' first | ((first | refine Br.dec ?_ ?_ | refine Br.eqi ?_ ?_) <;> intro h <;> try (exfalso; omega)) | (simp (disch := (first | omega | (simp only [vlen]; first | done | omega))) only [vmy, hI2, ↓vAq, vBq, ↓reduceIte, Nat.reduceBEq, Nat.reduceEqDiff, Nat.reduceLT, Nat.reduceLeDiff, Nat.reduceAdd, Nat.reduceMul, Nat.reduceSub, reduceCtorEq, Int.reduceToNat]) | (refine Br.mk ?_ ?_ <;> intro h) | (refine BrN.mk (fun h => ?_) ?_) | (refine AltVC.mk ?_ ?_)
                  refine loopK.mk (m + 1, md, acc ++ [], L4) (by simp (disch := (first | omega | (simp only [vlen]; first | done | omega))) only [↓vAq, vBq, ↓reduceIte, Nat.reduceBEq, Nat.reduceEqDiff, Nat.reduceLT, Nat.reduceLeDiff, Nat.reduceAdd, Nat.reduceMul, Nat.reduceSub, reduceCtorEq, Int.reduceToNat]) ⟨by show m + 1 ≤ _; omega, hL4, by rw [hrest]; exact hmod, by rw [hrest]; omega, by show (acc ++ []).length ≤ 1000000 * (m + 1); rw [List.length_append]; simp; omega, hnext⟩ (by show (g.rules.getD q default).right.length - (m + 1) < (g.rules.getD q default).right.length - m; omega) ?_
                  rw [List.append_nil]
                  (simp (disch := (first | omega | (simp only [vlen]; first | done | omega))) only [Fits_u, Fits_m, Fits_nil, List.length_append, vmy, hI2, ↓vAq, vBq, ↓reduceIte, Nat.reduceBEq, Nat.reduceEqDiff, Nat.reduceLT, Nat.reduceLeDiff, Nat.reduceAdd, Nat.reduceMul, Nat.reduceSub, reduceCtorEq, Int.reduceToNat] <;> (repeat' first | rfl | apply And.intro))
                  all_goals first | rfl | (congr 1; omega)
              · have e : m = (g.rules.getD q default).right.length := by omega
                have h0 := hcont [] (by
                  rw [List.drop_of_length_le (by omega), List.drop_of_length_le (by omega)]
                  rw [List.drop_of_length_le (by omega), prT_nil] at hidx
                  have : idx = 0 := by omega
                  subst this; exact .nil _)
                rw [List.append_nil] at h0
                have hfin : Tk g w [x] i [j] ((q : Int) :: acc) r := by
                  have := Tk.name (l := []) (es := []) (s2 := []) (K2 := 0) hx hRA hcl (by rw [hown]; exact h0) (.nil j)
                  rw [prT_nil, Nat.mul_one, Nat.add_zero, hrem, List.append_nil] at this
                  exact this
                have hll : ((q : Int) :: acc).length = acc.length + 1 := rfl
                repeat' first | ((first | refine Br.dec ?_ ?_ | refine Br.eqi ?_ ?_) <;> intro h <;> try (exfalso; omega)) | (simp (disch := (first | omega | (simp only [vlen]; first | done | omega))) only [vmy, ↓vAq, vBq, ↓reduceIte, Nat.reduceBEq, Nat.reduceEqDiff, Nat.reduceLT, Nat.reduceLeDiff, Nat.reduceAdd, Nat.reduceMul, Nat.reduceSub, reduceCtorEq, Int.reduceToNat]) | (refine Br.mk ?_ ?_ <;> intro h) | (refine BrN.mk (fun h => ?_) ?_) | (refine AltVC.mk ?_ ?_)
                refine FinH_frz (τ := 8) (ob := ⟨1, i64s ((q : Int) :: acc), true, false, .arr⟩) (by simp (disch := (first | omega | (simp only [vlen]; first | done | omega))) only [vmy, ↓vAq, vBq, ↓reduceIte, Nat.reduceBEq, Nat.reduceEqDiff, Nat.reduceLT, Nat.reduceLeDiff, Nat.reduceAdd, Nat.reduceMul, Nat.reduceSub, reduceCtorEq, Int.reduceToNat]) (by simp (disch := (first | omega | (simp only [vlen]; first | done | omega))) only [vmy, ↓vAq, vBq, ↓reduceIte, Nat.reduceBEq, Nat.reduceEqDiff, Nat.reduceLT, Nat.reduceLeDiff, Nat.reduceAdd, Nat.reduceMul, Nat.reduceSub, reduceCtorEq, Int.reduceToNat]) rfl rfl ?_
                repeat' first | ((first | refine Br.dec ?_ ?_ | refine Br.eqi ?_ ?_) <;> intro h <;> try (exfalso; omega)) | (simp (disch := (first | omega | (simp only [vlen]; first | done | omega))) only [vmy, hll, ↓vAq, vBq, ↓reduceIte, Nat.reduceBEq, Nat.reduceEqDiff, Nat.reduceLT, Nat.reduceLeDiff, Nat.reduceAdd, Nat.reduceMul, Nat.reduceSub, reduceCtorEq, Int.reduceToNat]) | (refine Br.mk ?_ ?_ <;> intro h) | (refine BrN.mk (fun h => ?_) ?_) | (refine AltVC.mk ?_ ?_)
                exact finH_mk ((coO g w Lz).map some) (by simp [coO]) (by simp [coO]; simp (disch := (first | omega | (simp only [vlen]; first | done | omega))) only [vmy, ↓vAq, vBq, ↓reduceIte, Nat.reduceBEq, Nat.reduceEqDiff, Nat.reduceLT, Nat.reduceLeDiff, Nat.reduceAdd, Nat.reduceMul, Nat.reduceSub, reduceCtorEq, Int.reduceToNat]) (by unfold coO; simp (disch := (first | omega | (simp only [vlen]; first | done | omega))) only [vmy, ↓vAq, vBq, ↓reduceIte, Nat.reduceBEq, Nat.reduceEqDiff, Nat.reduceLT, Nat.reduceLeDiff, Nat.reduceAdd, Nat.reduceMul, Nat.reduceSub, reduceCtorEq, Int.reduceToNat]) ⟨(q : Int) :: acc, Lz, hfin, .inl (by simp (disch := (first | omega | (simp only [vlen]; first | done | omega))) only [vmy, ↓vAq, vBq, ↓reduceIte, Nat.reduceBEq, Nat.reduceEqDiff, Nat.reduceLT, Nat.reduceLeDiff, Nat.reduceAdd, Nat.reduceMul, Nat.reduceSub, reduceCtorEq, Int.reduceToNat]), rfl, hLz⟩
        · rintro ⟨rem, Ly⟩ ⟨hLy, hrem⟩
          rw [cutRows_len, List.take_length, hcs] at hrem
          simp only at hLy hrem ⊢
          have hru := rule_row (w := w) (i := i) (j := j) hRA
          unfold nrO nlO
          repeat' first | ((first | refine Br.dec ?_ ?_ | refine Br.eqi ?_ ?_) <;> intro h <;> try (exfalso; omega)) | (simp (disch := (first | omega | (simp only [vlen]; first | done | omega))) only [vmy, ↓vAq, vBq, ↓reduceIte, Nat.reduceBEq, Nat.reduceEqDiff, Nat.reduceLT, Nat.reduceLeDiff, Nat.reduceAdd, Nat.reduceMul, Nat.reduceSub, reduceCtorEq, Int.reduceToNat]) | (refine Br.mk ?_ ?_ <;> intro h) | (refine BrN.mk (fun h => ?_) ?_) | (refine AltVC.mk ?_ ?_)
          refine loopK.mk (q + 1, Ly) (by simp (disch := (first | omega | (simp only [vlen]; first | done | omega))) only [↓vAq, vBq, ↓reduceIte, Nat.reduceBEq, Nat.reduceEqDiff, Nat.reduceLT, Nat.reduceLeDiff, Nat.reduceAdd, Nat.reduceMul, Nat.reduceSub, reduceCtorEq, Int.reduceToNat]) ⟨by show q + 1 ≤ g.rules.length; omega, hLy, by show rlB g w x i j (q + 1) ≤ r; omega⟩ (by show g.rules.length - (q + 1) < g.rules.length - q; omega) ?_
          rw [show r - rlB g w x i j (q + 1) = rem by omega]
          (simp (disch := (first | omega | (simp only [vlen]; first | done | omega))) only [Fits_u, Fits_m, Fits_nil, List.length_append, vmy, ↓vAq, vBq, ↓reduceIte, Nat.reduceBEq, Nat.reduceEqDiff, Nat.reduceLT, Nat.reduceLeDiff, Nat.reduceAdd, Nat.reduceMul, Nat.reduceSub, reduceCtorEq, Int.reduceToNat] <;> (repeat' first | rfl | apply And.intro))
          all_goals first | rfl | trace_state
      · have hru : ruleV g w x i j q = 0 := by unfold ruleV; rw [if_neg hlx]
        repeat' first | ((first | refine Br.dec ?_ ?_ | refine Br.eqi ?_ ?_) <;> intro h <;> try (exfalso; omega)) | (simp (disch := (first | omega | (simp only [vlen]; first | done | omega))) only [vmy, ↓vAq, vBq, ↓reduceIte, Nat.reduceBEq, Nat.reduceEqDiff, Nat.reduceLT, Nat.reduceLeDiff, Nat.reduceAdd, Nat.reduceMul, Nat.reduceSub, reduceCtorEq, Int.reduceToNat]) | (refine Br.mk ?_ ?_ <;> intro h) | (refine BrN.mk (fun h => ?_) ?_) | (refine AltVC.mk ?_ ?_)
        refine loopK.mk (q + 1, Lx) (by simp (disch := (first | omega | (simp only [vlen]; first | done | omega))) only [↓vAq, vBq, ↓reduceIte, Nat.reduceBEq, Nat.reduceEqDiff, Nat.reduceLT, Nat.reduceLeDiff, Nat.reduceAdd, Nat.reduceMul, Nat.reduceSub, reduceCtorEq, Int.reduceToNat]) ⟨by show q + 1 ≤ g.rules.length; omega, hLx, by show rlB g w x i j (q + 1) ≤ r; omega⟩ (by show g.rules.length - (q + 1) < g.rules.length - q; omega) ?_
        rw [show rlB g w x i j (q + 1) = rlB g w x i j q by omega]
        (simp (disch := (first | omega | (simp only [vlen]; first | done | omega))) only [Fits_u, Fits_m, Fits_nil, List.length_append, vmy, ↓vAq, vBq, ↓reduceIte, Nat.reduceBEq, Nat.reduceEqDiff, Nat.reduceLT, Nat.reduceLeDiff, Nat.reduceAdd, Nat.reduceMul, Nat.reduceSub, reduceCtorEq, Int.reduceToNat] <;> (repeat' first | rfl | apply And.intro))
        all_goals first | rfl | trace_state
    · have e2 : q = g.rules.length := by omega
      subst e2
      rw [trees_name hc.p hx] at hr
      exact absurd hqr (Nat.not_le.2 hr)
theorem nth_all (g : Grammar) (w : List Int) (hc : CC g w) : ∀ n x i j, 0 ≤ x → x < g.k + g.n → i ≤ j → j ≤ w.length → (x < g.k ∨ j - i < n) → trees g w x i j ≤ 1099511627776 → nthP g w x i j := by
  intro n
  induction n with
  | zero =>
    intro x i j h0 h1 hij hj h2 hT r hr L hL
    exact nthS_spec g w hc x (h2.resolve_right (Nat.not_lt_zero _)) i j r hr L hL
  | succ n ih =>
    intro x i j h0 h1 hij hj h2 hT r hr L hL
    by_cases hx : x < g.k
    · exact nthS_spec g w hc x hx i j r hr L hL
    · have h3 := h2.resolve_left hx
      exact nthN_spec g w hc x hx h1 i j hij hj hT (fun x' i' j' a b c d e f => ih x' i' j' a b c d (e.imp (fun h => h) fun h => by omega) f) r hr L hL
theorem nth_spec (g : Grammar) (w : List Int) (hc : CC g w) (x : Int) (i j : Nat) (h0 : 0 ≤ x) (h1 : x < g.k + g.n) (hij : i ≤ j) (hj : j ≤ w.length) (hT : trees g w x i j ≤ 1099511627776) : nthP g w x i j := nth_all g w hc (j - i + 1) x i j h0 h1 hij hj (.inr (Nat.lt_succ_self _)) hT
end Go.Proofs.Ytjekkbpdgnohcaa
