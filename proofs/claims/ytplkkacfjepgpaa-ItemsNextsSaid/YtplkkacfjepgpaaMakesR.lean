/-
  coppicerref.Makes, Names; the laws GrammarMakes, GrammarVoids.
-/
import Derived.Test.YtplkkacfjepgpaaMg13
namespace Go.Proofs.Ytplkkacfjepgpaa
open Go.Dm
set_option linter.unusedSimpArgs false
set_option linter.unnecessarySimpa false
set_option linter.unusedVariables false
theorem all_take_succ' {p : Int → Bool} {l : List Int} {i : Nat} (h : i < l.length) : (l.take (i + 1)).all p = ((l.take i).all p && p (l.getD i 0)) := by
  rw [take_succ_getD h 0, List.all_append]; simp
set_option maxRecDepth 10000 in
set_option maxHeartbeats 4000000 in
theorem refMakes_spec (g : Grammar) (hv : Valid g) (void : Bool) : ∀ (d : Nat) (x : Int), d ≤ 1000 → 0 ≤ x ∧ x < g.k + g.n → Dm.Spec Try.prog 65 [.ag (graD g), iv .i64 x, iv .i64 d, .v (.bool void)] (· = .v (.bool (mkS g void d x))) := by
  intro d
  induction d with
  | zero =>
    intro x hd hx
    have hk := hv.k
    refine spec_of_vc mixed Try.func65 c65 (by rw [show Try.f65.ntmps = _ from Try.ntmps65]; simp) ?_; unfold m65 r65
    repeat' first | ((first | refine Br.dec ?_ ?_ | refine Br.eqi ?_ ?_) <;> intro h <;> try (exfalso; omega)) | (simp (disch := first | omega | (simp only [vlen]; first | done | omega)) only [↓vAq, vBq, ↓reduceIte, Nat.reduceBEq, Nat.reduceEqDiff, Nat.reduceLT, Nat.reduceLeDiff, Nat.reduceAdd, Nat.reduceMul, Nat.reduceSub, reduceCtorEq, Int.reduceToNat]) | (refine Br.mk ?_ ?_ <;> intro h) | (refine BrN.mk (fun h => ?_) ?_) | (refine AltVC.mk ?_ ?_)
    · exact fin_mk (by rw [mkS_sym (by assumption)])
    · exact fin_mk (by rw [mkS, decide_eq_false (by assumption)]; rfl)
  | succ d ih =>
    intro x hd hx
    have hk := hv.k
    have hn := hv.n
    have hlen := hv.len
    refine spec_of_vc mixed Try.func65 c65 (by rw [show Try.f65.ntmps = _ from Try.ntmps65]; simp) ?_; unfold m65 r65
    repeat' first | ((first | refine Br.dec ?_ ?_ | refine Br.eqi ?_ ?_) <;> intro h <;> try (exfalso; omega)) | (simp (disch := first | omega | (simp only [vlen]; first | done | omega)) only [↓vAq, vBq, ↓reduceIte, Nat.reduceBEq, Nat.reduceEqDiff, Nat.reduceLT, Nat.reduceLeDiff, Nat.reduceAdd, Nat.reduceMul, Nat.reduceSub, reduceCtorEq, Int.reduceToNat]) | (refine Br.mk ?_ ?_ <;> intro h) | (refine BrN.mk (fun h => ?_) ?_) | (refine AltVC.mk ?_ ?_)
    · exact fin_mk (by rw [mkS_sym (by assumption)])
    · refine LoopVC.mk (X := Nat) (fun i => [(25, iv .i64 i)]) (fun _ => [(0, ⟨4, [[iv .i64 g.k, iv .i64 g.n, iv .i64 g.start, .sl 2 (tbl rulD g.rules)]], true, false, .fix⟩)]) (fun i => g.rules.length - i) (fun i => i ≤ g.rules.length ∧ ∀ j, j < i → (decide ((g.rules.getD j default).left = x - g.k) && (g.rules.getD j default).right.all fun y => mkS g void d y) = false) 0 ⟨by omega, by omega⟩ ?_ ?_
      · (simp (disch := first | omega | (simp only [vlen]; first | done | omega)) only [Fits_u, Fits_m, Fits_nil, List.length_append, ↓vAq, vBq, ↓reduceIte, Nat.reduceBEq, Nat.reduceEqDiff, Nat.reduceLT, Nat.reduceLeDiff, Nat.reduceAdd, Nat.reduceMul, Nat.reduceSub, reduceCtorEq, Int.reduceToNat] <;> (repeat' first | rfl | apply And.intro))
      · rintro i ⟨h1, h2⟩
        repeat' first | ((first | refine Br.dec ?_ ?_ | refine Br.eqi ?_ ?_) <;> intro h <;> try (exfalso; omega)) | (simp (disch := first | omega | (simp only [vlen]; first | done | omega)) only [↓vAq, vBq, ↓reduceIte, Nat.reduceBEq, Nat.reduceEqDiff, Nat.reduceLT, Nat.reduceLeDiff, Nat.reduceAdd, Nat.reduceMul, Nat.reduceSub, reduceCtorEq, Int.reduceToNat]) | (refine Br.mk ?_ ?_ <;> intro h) | (refine BrN.mk (fun h => ?_) ?_) | (refine AltVC.mk ?_ ?_)
        · have hm : g.rules.getD i default ∈ g.rules := getD_mem' (by omega)
          have hq := hv.long _ hm
          refine LoopVC.mk (X := Nat) (fun k => [(11, .v (.bool (((g.rules.getD i default).right.take k).all fun y => mkS g void d y))), (39, iv .i64 k)]) (fun _ => [(0, ⟨4, [[iv .i64 g.k, iv .i64 g.n, iv .i64 g.start, .sl 2 (tbl rulD g.rules)]], true, false, .fix⟩)]) (fun k => (g.rules.getD i default).right.length - k) (fun k => k ≤ (g.rules.getD i default).right.length) 0 (by omega) ?_ ?_
          · (simp (disch := first | omega | (simp only [vlen]; first | done | omega)) only [Fits_u, Fits_m, Fits_nil, List.length_append, ↓vAq, vBq, ↓reduceIte, Nat.reduceBEq, Nat.reduceEqDiff, Nat.reduceLT, Nat.reduceLeDiff, Nat.reduceAdd, Nat.reduceMul, Nat.reduceSub, reduceCtorEq, Int.reduceToNat] <;> (repeat' first | rfl | apply And.intro))
          · rintro k hk2
            repeat' first | ((first | refine Br.dec ?_ ?_ | refine Br.eqi ?_ ?_) <;> intro h <;> try (exfalso; omega)) | (simp (disch := first | omega | (simp only [vlen]; first | done | omega)) only [↓vAq, vBq, ↓reduceIte, Nat.reduceBEq, Nat.reduceEqDiff, Nat.reduceLT, Nat.reduceLeDiff, Nat.reduceAdd, Nat.reduceMul, Nat.reduceSub, reduceCtorEq, Int.reduceToNat]) | (refine Br.mk ?_ ?_ <;> intro h) | (refine BrN.mk (fun h => ?_) ?_) | (refine AltVC.mk ?_ ?_)
            · have ha : (((g.rules.getD i default).right.take k).all fun y => mkS g void d y) = true := by assumption
              rw [show ((d : Int) + 1 - 1) = d by omega]
              refine CallVC.eq (ih ((g.rules.getD i default).right.getD k 0) (by omega) (hv.right _ hm _ (getD_mem' (i := k) (by omega)))) ?_
              repeat' first | ((first | refine Br.dec ?_ ?_ | refine Br.eqi ?_ ?_) <;> intro h <;> try (exfalso; omega)) | (simp (disch := first | omega | (simp only [vlen]; first | done | omega)) only [↓vAq, vBq, ↓reduceIte, Nat.reduceBEq, Nat.reduceEqDiff, Nat.reduceLT, Nat.reduceLeDiff, Nat.reduceAdd, Nat.reduceMul, Nat.reduceSub, reduceCtorEq, Int.reduceToNat]) | (refine Br.mk ?_ ?_ <;> intro h) | (refine BrN.mk (fun h => ?_) ?_) | (refine AltVC.mk ?_ ?_)
              refine loopK.mk (k + 1) (by simp (disch := first | omega | (simp only [vlen]; first | done | omega)) only [↓vAq, vBq, ↓reduceIte, Nat.reduceBEq, Nat.reduceEqDiff, Nat.reduceLT, Nat.reduceLeDiff, Nat.reduceAdd, Nat.reduceMul, Nat.reduceSub, reduceCtorEq, Int.reduceToNat]) (by omega) (by omega) ?_
              (simp (disch := first | omega | (simp only [vlen]; first | done | omega)) only [Fits_u, Fits_m, Fits_nil, List.length_append, ↓vAq, vBq, ↓reduceIte, Nat.reduceBEq, Nat.reduceEqDiff, Nat.reduceLT, Nat.reduceLeDiff, Nat.reduceAdd, Nat.reduceMul, Nat.reduceSub, reduceCtorEq, Int.reduceToNat] <;> (repeat' first | rfl | apply And.intro))
              exact vbEq (by rw [all_take_succ' (by omega), ha, Bool.true_and])
            · have ha : (((g.rules.getD i default).right.take k).all fun y => mkS g void d y) = false := by assumption
              refine loopK.mk (k + 1) (by simp (disch := first | omega | (simp only [vlen]; first | done | omega)) only [↓vAq, vBq, ↓reduceIte, Nat.reduceBEq, Nat.reduceEqDiff, Nat.reduceLT, Nat.reduceLeDiff, Nat.reduceAdd, Nat.reduceMul, Nat.reduceSub, reduceCtorEq, Int.reduceToNat]) (by omega) (by omega) ?_
              (simp (disch := first | omega | (simp only [vlen]; first | done | omega)) only [Fits_u, Fits_m, Fits_nil, List.length_append, ↓vAq, vBq, ↓reduceIte, Nat.reduceBEq, Nat.reduceEqDiff, Nat.reduceLT, Nat.reduceLeDiff, Nat.reduceAdd, Nat.reduceMul, Nat.reduceSub, reduceCtorEq, Int.reduceToNat] <;> (repeat' first | rfl | apply And.intro))
              exact vbEq (by rw [all_take_succ' (by omega), ha, Bool.false_and])
            · have ha : ((g.rules.getD i default).right.all fun y => mkS g void d y) = true := by assumption
              exact fin_mk (vbEq (by rw [mkS, if_neg (by assumption)]; exact (any_hit (i := i) (by omega) (by rw [ha, decide_eq_true (by assumption)]; rfl)).symm))
            · have ha : ((g.rules.getD i default).right.all fun y => mkS g void d y) = false := by assumption
              exact loopK.mk (i + 1) (by simp (disch := first | omega | (simp only [vlen]; first | done | omega)) only [↓vAq, vBq, ↓reduceIte, Nat.reduceBEq, Nat.reduceEqDiff, Nat.reduceLT, Nat.reduceLeDiff, Nat.reduceAdd, Nat.reduceMul, Nat.reduceSub, reduceCtorEq, Int.reduceToNat]) ⟨by omega, succ_all h2 (by rw [ha, Bool.and_false])⟩ (by omega) (by (simp (disch := first | omega | (simp only [vlen]; first | done | omega)) only [Fits_u, Fits_m, Fits_nil, List.length_append, ↓vAq, vBq, ↓reduceIte, Nat.reduceBEq, Nat.reduceEqDiff, Nat.reduceLT, Nat.reduceLeDiff, Nat.reduceAdd, Nat.reduceMul, Nat.reduceSub, reduceCtorEq, Int.reduceToNat] <;> (repeat' first | rfl | apply And.intro)))
        · exact loopK.mk (i + 1) (by simp (disch := first | omega | (simp only [vlen]; first | done | omega)) only [↓vAq, vBq, ↓reduceIte, Nat.reduceBEq, Nat.reduceEqDiff, Nat.reduceLT, Nat.reduceLeDiff, Nat.reduceAdd, Nat.reduceMul, Nat.reduceSub, reduceCtorEq, Int.reduceToNat]) ⟨by omega, succ_all h2 (by rw [decide_eq_false (by assumption), Bool.false_and])⟩ (by omega) (by (simp (disch := first | omega | (simp only [vlen]; first | done | omega)) only [Fits_u, Fits_m, Fits_nil, List.length_append, ↓vAq, vBq, ↓reduceIte, Nat.reduceBEq, Nat.reduceEqDiff, Nat.reduceLT, Nat.reduceLeDiff, Nat.reduceAdd, Nat.reduceMul, Nat.reduceSub, reduceCtorEq, Int.reduceToNat] <;> (repeat' first | rfl | apply And.intro)))
        · exact fin_mk (vbEq (by rw [mkS, if_neg (by assumption)]; exact (any_none (i := i) (by omega) h2).symm))
set_option maxRecDepth 10000 in
set_option maxHeartbeats 4000000 in
theorem names_spec (g : Grammar) (hv : Valid g) (void : Bool) : Dm.Spec Try.prog 33 [.ag (graD g), .v (.bool void)] (· = iv .u32 (nameSet g void)) := by
  refine spec_of_vc mixed Try.func33 c33 (by rw [show Try.f33.ntmps = _ from Try.ntmps33]; simp) ?_
  unfold m33 r33
  have hk := hv.k
  have hn := hv.n
  have hp : 2 ^ g.n.toNat ≤ 32 := Nat.le_trans (Nat.pow_le_pow_right (show 0 < 2 by omega) (show g.n.toNat ≤ 5 by omega)) (by decide)
  repeat' first | ((first | refine Br.dec ?_ ?_ | refine Br.eqi ?_ ?_) <;> intro h <;> try (exfalso; omega)) | (simp (disch := first | omega | (simp only [vlen]; first | done | omega)) only [↓vAq, vBq, ↓reduceIte, Nat.reduceBEq, Nat.reduceEqDiff, Nat.reduceLT, Nat.reduceLeDiff, Nat.reduceAdd, Nat.reduceMul, Nat.reduceSub, reduceCtorEq, Int.reduceToNat]) | (refine Br.mk ?_ ?_ <;> intro h) | (refine BrN.mk (fun h => ?_) ?_) | (refine AltVC.mk ?_ ?_)
  refine LoopVC.mk (X := Nat) (fun i => [(5, iv .u32 (setOf (mkN g void g.n.toNat) i)), (6, iv .i64 i)]) (fun _ => [(0, ⟨4, [[iv .i64 g.k, iv .i64 g.n, iv .i64 g.start, .sl 2 (tbl rulD g.rules)]], true, false, .fix⟩)]) (fun i => g.n.toNat - i) (fun i => i ≤ g.n.toNat) 0 (by omega) ?_ ?_
  · (simp (disch := first | omega | (simp only [vlen]; first | done | omega)) only [Fits_u, Fits_m, Fits_nil, List.length_append, ↓vAq, vBq, ↓reduceIte, Nat.reduceBEq, Nat.reduceEqDiff, Nat.reduceLT, Nat.reduceLeDiff, Nat.reduceAdd, Nat.reduceMul, Nat.reduceSub, reduceCtorEq, Int.reduceToNat] <;> (repeat' first | rfl | apply And.intro))
  · rintro i hi
    have e : ((g.n.toNat : Nat) : Int) = g.n := by omega
    have hs := fun h1 h2 => refMakes_spec g hv void g.n.toNat (g.k + (i : Int)) h1 h2
    rw [e] at hs
    repeat' first | ((first | refine Br.dec ?_ ?_ | refine Br.eqi ?_ ?_) <;> intro h <;> try (exfalso; omega)) | (simp (disch := first | omega | (simp only [vlen]; first | done | omega)) only [↓vAq, vBq, ↓reduceIte, Nat.reduceBEq, Nat.reduceEqDiff, Nat.reduceLT, Nat.reduceLeDiff, Nat.reduceAdd, Nat.reduceMul, Nat.reduceSub, reduceCtorEq, Int.reduceToNat]) | (refine Br.mk ?_ ?_ <;> intro h) | (refine BrN.mk (fun h => ?_) ?_) | (refine AltVC.mk ?_ ?_)
    · have hlt := @setOf_lt (mkN g void g.n.toNat) i
      have hp2 : 2 ^ i ≤ 16 := Nat.le_trans (Nat.pow_le_pow_right (show 0 < 2 by omega) (show i ≤ 4 by omega)) (by decide)
      refine CallVC.eq (hs (by omega) (by omega)) ?_
      repeat' first | ((first | refine Br.dec ?_ ?_ | refine Br.eqi ?_ ?_) <;> intro h <;> try (exfalso; omega)) | (simp (disch := first | omega | (simp only [vlen]; first | done | omega)) only [↓vAq, vBq, ↓reduceIte, Nat.reduceBEq, Nat.reduceEqDiff, Nat.reduceLT, Nat.reduceLeDiff, Nat.reduceAdd, Nat.reduceMul, Nat.reduceSub, reduceCtorEq, Int.reduceToNat]) | (refine Br.mk ?_ ?_ <;> intro h) | (refine BrN.mk (fun h => ?_) ?_) | (refine AltVC.mk ?_ ?_)
      · have hc : mkN g void g.n.toNat i = true := by assumption
        rw [shlN (by omega), wrapu32_id (by omega)]
        refine loopK.mk (i + 1) (by simp (disch := first | omega | (simp only [vlen]; first | done | omega)) only [↓vAq, vBq, ↓reduceIte, Nat.reduceBEq, Nat.reduceEqDiff, Nat.reduceLT, Nat.reduceLeDiff, Nat.reduceAdd, Nat.reduceMul, Nat.reduceSub, reduceCtorEq, Int.reduceToNat]) (by omega) (by omega) ?_
        (simp (disch := first | omega | (simp only [vlen]; first | done | omega)) only [Fits_u, Fits_m, Fits_nil, List.length_append, ↓vAq, vBq, ↓reduceIte, Nat.reduceBEq, Nat.reduceEqDiff, Nat.reduceLT, Nat.reduceLeDiff, Nat.reduceAdd, Nat.reduceMul, Nat.reduceSub, reduceCtorEq, Int.reduceToNat] <;> (repeat' first | rfl | apply And.intro))
        exact viEq (by rw [setOf_add hc]; omega)
      · have hc0 : mkS g void g.n.toNat (g.k + (i : Int)) = false := by assumption
        have hc : ¬ mkN g void g.n.toNat i = true := by
          unfold mkN; rw [hc0]; simp
        refine loopK.mk (i + 1) (by simp (disch := first | omega | (simp only [vlen]; first | done | omega)) only [↓vAq, vBq, ↓reduceIte, Nat.reduceBEq, Nat.reduceEqDiff, Nat.reduceLT, Nat.reduceLeDiff, Nat.reduceAdd, Nat.reduceMul, Nat.reduceSub, reduceCtorEq, Int.reduceToNat]) (by omega) (by omega) ?_
        (simp (disch := first | omega | (simp only [vlen]; first | done | omega)) only [Fits_u, Fits_m, Fits_nil, List.length_append, ↓vAq, vBq, ↓reduceIte, Nat.reduceBEq, Nat.reduceEqDiff, Nat.reduceLT, Nat.reduceLeDiff, Nat.reduceAdd, Nat.reduceMul, Nat.reduceSub, reduceCtorEq, Int.reduceToNat] <;> (repeat' first | rfl | apply And.intro))
        exact viEq (by rw [setOf_skip hc])
    · refine fin_mk (viEq ?_)
      rw [nameSet, show i = g.n.toNat by omega]
end Go.Proofs.Ytplkkacfjepgpaa
