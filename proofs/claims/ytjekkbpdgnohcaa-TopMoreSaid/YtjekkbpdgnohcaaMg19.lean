/-
 Texts of this claim, one behind another.
-/
import Derived.Test.YtjekkbpdgnohcaaMg17
import Derived.Test.YtjekkbpdgnohcaaPlW
import Derived.Test.YtjekkbpdgnohcaaMg13
import Derived.Test.YtjekkbpdgnohcaaMg11
namespace Go.Proofs.Ytjekkbpdgnohcaa
open Go.Dm
set_option linter.unusedSimpArgs false
set_option linter.unnecessarySimpa false
set_option linter.unusedVariables false
set_option linter.defProp false
def doR (g : Grammar) (d : Deed) (x : D) (o : List (Option Ob)) : Prop := ∃ t, x = .ag (tlD t) ∧ TR g d t ∧ ∃ L', o = [some (stB (nxG g d) L')] ∧ MA (nxG g d) L'
theorem do_fin {g : Grammar} {d : Deed} {s : S} {x : D} {L : List AK} (t : Tl) (h1 : 1 ≤ s.N) (h2 : fitL s 1 0 [some (stB (nxG g d) L)]) (hx : x.trim 1 = .ag (tlD t)) (ht : TR g d t) (hL : MA (nxG g d) L) : FinH 1 (doR g d) s x :=
  finH_mk [some (stB (nxG g d) L)] (by simp) (by simpa using h1) (by simpa using h2) ⟨t, hx, ht, L, rfl, hL⟩
theorem tl_appN {l : List Tl} {c n : Int} : tbl tlD l ++ [[D.v (.int .i64 c), D.v (.int .i64 n), D.nl]] = tbl tlD (l ++ [⟨c, n, [], true⟩]) := by rw [tbl_app]; rfl
theorem tl_appS {l : List Tl} {c n : Int} {st : List Int} : tbl tlD l ++ [[D.v (.int .i64 c), D.v (.int .i64 n), D.sl 1 (i64s st)]] = tbl tlD (l ++ [⟨c, n, st, false⟩]) := by rw [tbl_app]; rfl
theorem tlD_N {c n : Int} {st : List Int} : tlD ⟨c, n, st, true⟩ = [D.v (.int .i64 c), D.v (.int .i64 n), D.nl] := (rfl)
theorem tlD_S {c n : Int} {st : List Int} : tlD ⟨c, n, st, false⟩ = [D.v (.int .i64 c), D.v (.int .i64 n), D.sl 1 (i64s st)] := (rfl)
def vpl := And.intro vsu <| And.intro @tl_appN <| And.intro @tl_appS <| And.intro @tlD_N @tlD_S
set_option maxRecDepth 10000 in
set_option maxHeartbeats 4000000 in
theorem do_spec (g : Grammar) (hv : VG g) (hg : g.ok) (d : Deed) (hd : okD d) (L : List AK) (hL : MA g L) : Dm.SpecH Try.prog 23 [.ptr 0 5 0 0, .ag (deeD d)] [stB g L] (doR g d) := by
  refine specH_of_vc mixed Try.func23 c23 (by rw [show Try.f23.ntmps = _ from Try.ntmps23]; simp) ?_
  unfold m23 r23
  have hlen := (valid_of hv.1).len
  have hw := hd.1.2.2.1
  have hwl := maxLen_le hw.1
  have hn := hd.1.2.2.2.1
  have hsl := maxLen_le hd.1.2.2.2.2.1
  unfold stB
  by_cases h1 : d.kind = 1
  · have en : nxG g d = rule2G g d.rule := by unfold nxG; rw [if_pos h1]; rfl
    repeat' first | ((first | refine Br.dec ?_ ?_ | refine Br.eqi ?_ ?_) <;> intro h <;> try (exfalso; omega)) | (simp (disch := first | omega | (simp only [vlen]; first | done | omega)) only [vpl, ↓vAq, vBq, ↓reduceIte, Nat.reduceBEq, Nat.reduceEqDiff, Nat.reduceLT, Nat.reduceLeDiff, Nat.reduceAdd, Nat.reduceMul, Nat.reduceSub, reduceCtorEq, Int.reduceToNat]) | (refine Br.mk ?_ ?_ <;> intro h) | (refine BrN.mk (fun h => ?_) ?_) | (refine AltVC.mk ?_ ?_)
    refine CallVC.lendE [0] [.ptr 0 5 0 0, .ag (rulD d.rule)] [stB g L] (rule_spec g hv hg d.rule ⟨hd.1.2.1, hd.2⟩ L hL) (by simp) (by rfl) (by unfold stB; (simp (disch := first | omega | (simp only [vlen]; first | done | omega)) only [vle0, ↓vAq, vBq, ↓reduceIte, Nat.reduceBEq, Nat.reduceEqDiff, Nat.reduceLT, Nat.reduceLeDiff, Nat.reduceAdd, Nat.reduceMul, Nat.reduceSub, reduceCtorEq, Int.reduceToNat] <;> (repeat' first | rfl | apply And.intro))) ?_
    rintro _ _ ⟨rfl, L', rfl, hL'⟩
    unfold stB
    repeat' first | ((first | refine Br.dec ?_ ?_ | refine Br.eqi ?_ ?_) <;> intro h <;> try (exfalso; omega)) | (simp (disch := first | omega | (simp only [vlen]; first | done | omega)) only [vpl, ↓vAq, vBq, ↓reduceIte, Nat.reduceBEq, Nat.reduceEqDiff, Nat.reduceLT, Nat.reduceLeDiff, Nat.reduceAdd, Nat.reduceMul, Nat.reduceSub, reduceCtorEq, Int.reduceToNat]) | (refine Br.mk ?_ ?_ <;> intro h) | (refine BrN.mk (fun h => ?_) ?_) | (refine AltVC.mk ?_ ?_)
    exact do_fin (L := L') ⟨rcode g d.rule, if rcode g d.rule = 0 then (g.rules.length : Int) else 0, [], true⟩ (by simp (disch := first | omega | (simp only [vlen]; first | done | omega)) only [vpl, ↓vAq, vBq, ↓reduceIte, Nat.reduceBEq, Nat.reduceEqDiff, Nat.reduceLT, Nat.reduceLeDiff, Nat.reduceAdd, Nat.reduceMul, Nat.reduceSub, reduceCtorEq, Int.reduceToNat]) (by rw [en]; unfold stB; simp (disch := first | omega | (simp only [vlen]; first | done | omega)) only [vpl, ↓vAq, vBq, ↓reduceIte, Nat.reduceBEq, Nat.reduceEqDiff, Nat.reduceLT, Nat.reduceLeDiff, Nat.reduceAdd, Nat.reduceMul, Nat.reduceSub, reduceCtorEq, Int.reduceToNat]) (by simp (disch := first | omega | (simp only [vlen]; first | done | omega)) only [vpl, ↓vAq, vBq, ↓reduceIte, Nat.reduceBEq, Nat.reduceEqDiff, Nat.reduceLT, Nat.reduceLeDiff, Nat.reduceAdd, Nat.reduceMul, Nat.reduceSub, reduceCtorEq, Int.reduceToNat]) ⟨.rule h1, fun _ => rfl⟩ (by rw [en]; exact hL')
  by_cases h2 : d.kind = 2
  · by_cases hl : g.rules.length = 0
    · have en : nxG g d = g := by unfold nxG; rw [if_neg h1, if_pos h2, if_pos hl]
      have ht := TO.undo (g := g) h2
      rw [if_pos hl] at ht
      repeat' first | ((first | refine Br.dec ?_ ?_ | refine Br.eqi ?_ ?_) <;> intro h <;> try (exfalso; omega)) | (simp (disch := first | omega | (simp only [vlen]; first | done | omega)) only [vpl, ↓vAq, vBq, ↓reduceIte, Nat.reduceBEq, Nat.reduceEqDiff, Nat.reduceLT, Nat.reduceLeDiff, Nat.reduceAdd, Nat.reduceMul, Nat.reduceSub, reduceCtorEq, Int.reduceToNat]) | (refine Br.mk ?_ ?_ <;> intro h) | (refine BrN.mk (fun h => ?_) ?_) | (refine AltVC.mk ?_ ?_)
      exact do_fin (L := L) ⟨5, 0, [], true⟩ (by simp (disch := first | omega | (simp only [vlen]; first | done | omega)) only [vpl, ↓vAq, vBq, ↓reduceIte, Nat.reduceBEq, Nat.reduceEqDiff, Nat.reduceLT, Nat.reduceLeDiff, Nat.reduceAdd, Nat.reduceMul, Nat.reduceSub, reduceCtorEq, Int.reduceToNat]) (by rw [en]; unfold stB; simp (disch := first | omega | (simp only [vlen]; first | done | omega)) only [vpl, ↓vAq, vBq, ↓reduceIte, Nat.reduceBEq, Nat.reduceEqDiff, Nat.reduceLT, Nat.reduceLeDiff, Nat.reduceAdd, Nat.reduceMul, Nat.reduceSub, reduceCtorEq, Int.reduceToNat]) (by simp (disch := first | omega | (simp only [vlen]; first | done | omega)) only [vpl, ↓vAq, vBq, ↓reduceIte, Nat.reduceBEq, Nat.reduceEqDiff, Nat.reduceLT, Nat.reduceLeDiff, Nat.reduceAdd, Nat.reduceMul, Nat.reduceSub, reduceCtorEq, Int.reduceToNat]) ⟨ht, fun _ => rfl⟩ (by rw [en]; exact hL)
    · have en : nxG g d = dropR g := by unfold nxG; rw [if_neg h1, if_pos h2, if_neg hl]
      have ht := TO.undo (g := g) h2
      rw [if_neg hl] at ht
      have e1 : ((g.rules.length : Int) - 1).toNat = g.rules.length - 1 := by omega
      repeat' first | ((first | refine Br.dec ?_ ?_ | refine Br.eqi ?_ ?_) <;> intro h <;> try (exfalso; omega)) | (simp (disch := first | omega | (simp only [vlen]; first | done | omega)) only [e1, vpl, ↓vAq, vBq, ↓reduceIte, Nat.reduceBEq, Nat.reduceEqDiff, Nat.reduceLT, Nat.reduceLeDiff, Nat.reduceAdd, Nat.reduceMul, Nat.reduceSub, reduceCtorEq, Int.reduceToNat]) | (refine Br.mk ?_ ?_ <;> intro h) | (refine BrN.mk (fun h => ?_) ?_) | (refine AltVC.mk ?_ ?_)
      refine CallVC.lendE [] [.sl 2 (tbl rulD (g.rules.take (g.rules.length - 1)))] [] (cloneB_rule (g.rules.take (g.rules.length - 1)) (by simp; omega)) (by simp) (by rfl) (by (simp (disch := first | omega | (simp only [vlen]; first | done | omega)) only [vle0, ↓vAq, vBq, ↓reduceIte, Nat.reduceBEq, Nat.reduceEqDiff, Nat.reduceLT, Nat.reduceLeDiff, Nat.reduceAdd, Nat.reduceMul, Nat.reduceSub, reduceCtorEq, Int.reduceToNat] <;> (repeat' first | rfl | apply And.intro))) ?_
      rintro _ _ ⟨rfl, rfl⟩
      repeat' first | ((first | refine Br.dec ?_ ?_ | refine Br.eqi ?_ ?_) <;> intro h <;> try (exfalso; omega)) | (simp (disch := first | omega | (simp only [vlen]; first | done | omega)) only [vpl, ↓vAq, vBq, ↓reduceIte, Nat.reduceBEq, Nat.reduceEqDiff, Nat.reduceLT, Nat.reduceLeDiff, Nat.reduceAdd, Nat.reduceMul, Nat.reduceSub, reduceCtorEq, Int.reduceToNat]) | (refine Br.mk ?_ ?_ <;> intro h) | (refine BrN.mk (fun h => ?_) ?_) | (refine AltVC.mk ?_ ?_)
      refine CallVC.frz 4 ?_
      repeat' first | ((first | refine Br.dec ?_ ?_ | refine Br.eqi ?_ ?_) <;> intro h <;> try (exfalso; omega)) | (simp (disch := first | omega | (simp only [vlen]; first | done | omega)) only [vpl, ↓vAq, vBq, ↓reduceIte, Nat.reduceBEq, Nat.reduceEqDiff, Nat.reduceLT, Nat.reduceLeDiff, Nat.reduceAdd, Nat.reduceMul, Nat.reduceSub, reduceCtorEq, Int.reduceToNat]) | (refine Br.mk ?_ ?_ <;> intro h) | (refine BrN.mk (fun h => ?_) ?_) | (refine AltVC.mk ?_ ?_)
      refine CallVC.lendE [0] [.ptr 0 5 0 0, .sl 2 (tbl rulD (g.rules.take (g.rules.length - 1)))] [stB g L] (set_spec g L (g.rules.take (g.rules.length - 1))) (by simp) (by rfl) (by unfold stB; (simp (disch := first | omega | (simp only [vlen]; first | done | omega)) only [vle0, ↓vAq, vBq, ↓reduceIte, Nat.reduceBEq, Nat.reduceEqDiff, Nat.reduceLT, Nat.reduceLeDiff, Nat.reduceAdd, Nat.reduceMul, Nat.reduceSub, reduceCtorEq, Int.reduceToNat] <;> (repeat' first | rfl | apply And.intro))) ?_
      rintro _ _ ⟨rfl, rfl⟩
      unfold stB
      repeat' first | ((first | refine Br.dec ?_ ?_ | refine Br.eqi ?_ ?_) <;> intro h <;> try (exfalso; omega)) | (simp (disch := first | omega | (simp only [vlen]; first | done | omega)) only [vpl, ↓vAq, vBq, ↓reduceIte, Nat.reduceBEq, Nat.reduceEqDiff, Nat.reduceLT, Nat.reduceLeDiff, Nat.reduceAdd, Nat.reduceMul, Nat.reduceSub, reduceCtorEq, Int.reduceToNat]) | (refine Br.mk ?_ ?_ <;> intro h) | (refine BrN.mk (fun h => ?_) ?_) | (refine AltVC.mk ?_ ?_)
      exact do_fin (L := []) ⟨0, 0, [], true⟩ (by simp (disch := first | omega | (simp only [vlen]; first | done | omega)) only [vpl, ↓vAq, vBq, ↓reduceIte, Nat.reduceBEq, Nat.reduceEqDiff, Nat.reduceLT, Nat.reduceLeDiff, Nat.reduceAdd, Nat.reduceMul, Nat.reduceSub, reduceCtorEq, Int.reduceToNat]) (by rw [en]; unfold stB dropR; simp (disch := first | omega | (simp only [vlen]; first | done | omega)) only [vpl, ↓vAq, vBq, ↓reduceIte, Nat.reduceBEq, Nat.reduceEqDiff, Nat.reduceLT, Nat.reduceLeDiff, Nat.reduceAdd, Nat.reduceMul, Nat.reduceSub, reduceCtorEq, Int.reduceToNat]) (by simp (disch := first | omega | (simp only [vlen]; first | done | omega)) only [vpl, ↓vAq, vBq, ↓reduceIte, Nat.reduceBEq, Nat.reduceEqDiff, Nat.reduceLT, Nat.reduceLeDiff, Nat.reduceAdd, Nat.reduceMul, Nat.reduceSub, reduceCtorEq, Int.reduceToNat]) ⟨ht, fun _ => rfl⟩ MA.nil
  have en : nxG g d = g := by unfold nxG; rw [if_neg h1, if_neg h2]
  by_cases h3 : d.kind = 3
  · repeat' first | ((first | refine Br.dec ?_ ?_ | refine Br.eqi ?_ ?_) <;> intro h <;> try (exfalso; omega)) | (simp (disch := first | omega | (simp only [vlen]; first | done | omega)) only [vpl, ↓vAq, vBq, ↓reduceIte, Nat.reduceBEq, Nat.reduceEqDiff, Nat.reduceLT, Nat.reduceLeDiff, Nat.reduceAdd, Nat.reduceMul, Nat.reduceSub, reduceCtorEq, Int.reduceToNat]) | (refine Br.mk ?_ ?_ <;> intro h) | (refine BrN.mk (fun h => ?_) ?_) | (refine AltVC.mk ?_ ?_)
    refine CallVC.lendE [0] [.ptr 0 5 0 0, .sl 1 (i64s d.word)] [stB g L] (stTrees_spec g hv hg d.word hw L hL) (by simp) (by rfl) (by unfold stB; (simp (disch := first | omega | (simp only [vlen]; first | done | omega)) only [vle0, ↓vAq, vBq, ↓reduceIte, Nat.reduceBEq, Nat.reduceEqDiff, Nat.reduceLT, Nat.reduceLeDiff, Nat.reduceAdd, Nat.reduceMul, Nat.reduceSub, reduceCtorEq, Int.reduceToNat] <;> (repeat' first | rfl | apply And.intro))) ?_
    rintro _ _ ⟨rfl, L', rfl, hL'⟩
    unfold stB
    repeat' first | ((first | refine Br.dec ?_ ?_ | refine Br.eqi ?_ ?_) <;> intro h <;> try (exfalso; omega)) | (simp (disch := first | omega | (simp only [vlen]; first | done | omega)) only [vpl, ↓vAq, vBq, ↓reduceIte, Nat.reduceBEq, Nat.reduceEqDiff, Nat.reduceLT, Nat.reduceLeDiff, Nat.reduceAdd, Nat.reduceMul, Nat.reduceSub, reduceCtorEq, Int.reduceToNat]) | (refine Br.mk ?_ ?_ <;> intro h) | (refine BrN.mk (fun h => ?_) ?_) | (refine AltVC.mk ?_ ?_)
    exact do_fin (L := L') ⟨trC g d.word, akN g d.word, [], true⟩ (by simp (disch := first | omega | (simp only [vlen]; first | done | omega)) only [vpl, ↓vAq, vBq, ↓reduceIte, Nat.reduceBEq, Nat.reduceEqDiff, Nat.reduceLT, Nat.reduceLeDiff, Nat.reduceAdd, Nat.reduceMul, Nat.reduceSub, reduceCtorEq, Int.reduceToNat]) (by rw [en]; unfold stB; simp (disch := first | omega | (simp only [vlen]; first | done | omega)) only [vpl, ↓vAq, vBq, ↓reduceIte, Nat.reduceBEq, Nat.reduceEqDiff, Nat.reduceLT, Nat.reduceLeDiff, Nat.reduceAdd, Nat.reduceMul, Nat.reduceSub, reduceCtorEq, Int.reduceToNat]) (by simp (disch := first | omega | (simp only [vlen]; first | done | omega)) only [vpl, ↓vAq, vBq, ↓reduceIte, Nat.reduceBEq, Nat.reduceEqDiff, Nat.reduceLT, Nat.reduceLeDiff, Nat.reduceAdd, Nat.reduceMul, Nat.reduceSub, reduceCtorEq, Int.reduceToNat]) ⟨.many h3, fun _ => rfl⟩ (by rw [en]; exact hL')
  by_cases h4 : d.kind = 4
  · repeat' first | ((first | refine Br.dec ?_ ?_ | refine Br.eqi ?_ ?_) <;> intro h <;> try (exfalso; omega)) | (simp (disch := first | omega | (simp only [vlen]; first | done | omega)) only [vpl, ↓vAq, vBq, ↓reduceIte, Nat.reduceBEq, Nat.reduceEqDiff, Nat.reduceLT, Nat.reduceLeDiff, Nat.reduceAdd, Nat.reduceMul, Nat.reduceSub, reduceCtorEq, Int.reduceToNat]) | (refine Br.mk ?_ ?_ <;> intro h) | (refine BrN.mk (fun h => ?_) ?_) | (refine AltVC.mk ?_ ?_)
    refine GhoV.go ?_
    repeat' first | ((first | refine Br.dec ?_ ?_ | refine Br.eqi ?_ ?_) <;> intro h <;> try (exfalso; omega)) | (simp (disch := first | omega | (simp only [vlen]; first | done | omega)) only [vpl, ↓vAq, vBq, ↓reduceIte, Nat.reduceBEq, Nat.reduceEqDiff, Nat.reduceLT, Nat.reduceLeDiff, Nat.reduceAdd, Nat.reduceMul, Nat.reduceSub, reduceCtorEq, Int.reduceToNat]) | (refine Br.mk ?_ ?_ <;> intro h) | (refine BrN.mk (fun h => ?_) ?_) | (refine AltVC.mk ?_ ?_)
    refine CallVC.mk (pick_spec g hg d.word hwl d.n hn) ?_
    rintro _ (⟨e, rfl⟩ | ⟨e, hin, rfl⟩ | ⟨e, r, st, hi, hr, hT, hd⟩)
    · repeat' first | ((first | refine Br.dec ?_ ?_ | refine Br.eqi ?_ ?_) <;> intro h <;> try (exfalso; omega)) | (simp (disch := first | omega | (simp only [vlen]; first | done | omega)) only [vpl, ↓vAq, vBq, ↓reduceIte, Nat.reduceBEq, Nat.reduceEqDiff, Nat.reduceLT, Nat.reduceLeDiff, Nat.reduceAdd, Nat.reduceMul, Nat.reduceSub, reduceCtorEq, Int.reduceToNat]) | (refine Br.mk ?_ ?_ <;> intro h) | (refine BrN.mk (fun h => ?_) ?_) | (refine AltVC.mk ?_ ?_)
      exact do_fin (L := L) ⟨trC g d.word, 0, [], false⟩ (by simp (disch := first | omega | (simp only [vlen]; first | done | omega)) only [vpl, ↓vAq, vBq, ↓reduceIte, Nat.reduceBEq, Nat.reduceEqDiff, Nat.reduceLT, Nat.reduceLeDiff, Nat.reduceAdd, Nat.reduceMul, Nat.reduceSub, reduceCtorEq, Int.reduceToNat]) (by rw [en]; unfold stB; simp (disch := first | omega | (simp only [vlen]; first | done | omega)) only [vpl, ↓vAq, vBq, ↓reduceIte, Nat.reduceBEq, Nat.reduceEqDiff, Nat.reduceLT, Nat.reduceLeDiff, Nat.reduceAdd, Nat.reduceMul, Nat.reduceSub, reduceCtorEq, Int.reduceToNat]) (by simp (disch := first | omega | (simp only [vlen]; first | done | omega)) only [i64s_nil, vpl, ↓vAq, vBq, ↓reduceIte, Nat.reduceBEq, Nat.reduceEqDiff, Nat.reduceLT, Nat.reduceLeDiff, Nat.reduceAdd, Nat.reduceMul, Nat.reduceSub, reduceCtorEq, Int.reduceToNat]) ⟨.pickC h4 e, fun _ => rfl⟩ (by rw [en]; exact hL)
    · repeat' first | ((first | refine Br.dec ?_ ?_ | refine Br.eqi ?_ ?_) <;> intro h <;> try (exfalso; omega)) | (simp (disch := first | omega | (simp only [vlen]; first | done | omega)) only [vpl, ↓vAq, vBq, ↓reduceIte, Nat.reduceBEq, Nat.reduceEqDiff, Nat.reduceLT, Nat.reduceLeDiff, Nat.reduceAdd, Nat.reduceMul, Nat.reduceSub, reduceCtorEq, Int.reduceToNat]) | (refine Br.mk ?_ ?_ <;> intro h) | (refine BrN.mk (fun h => ?_) ?_) | (refine AltVC.mk ?_ ?_)
      exact do_fin (L := L) ⟨5, 0, [], false⟩ (by simp (disch := first | omega | (simp only [vlen]; first | done | omega)) only [vpl, ↓vAq, vBq, ↓reduceIte, Nat.reduceBEq, Nat.reduceEqDiff, Nat.reduceLT, Nat.reduceLeDiff, Nat.reduceAdd, Nat.reduceMul, Nat.reduceSub, reduceCtorEq, Int.reduceToNat]) (by rw [en]; unfold stB; simp (disch := first | omega | (simp only [vlen]; first | done | omega)) only [vpl, ↓vAq, vBq, ↓reduceIte, Nat.reduceBEq, Nat.reduceEqDiff, Nat.reduceLT, Nat.reduceLeDiff, Nat.reduceAdd, Nat.reduceMul, Nat.reduceSub, reduceCtorEq, Int.reduceToNat]) (by simp (disch := first | omega | (simp only [vlen]; first | done | omega)) only [i64s_nil, vpl, ↓vAq, vBq, ↓reduceIte, Nat.reduceBEq, Nat.reduceEqDiff, Nat.reduceLT, Nat.reduceLeDiff, Nat.reduceAdd, Nat.reduceMul, Nat.reduceSub, reduceCtorEq, Int.reduceToNat]) ⟨.pickN h4 e hin, fun _ => rfl⟩ (by rw [en]; exact hL)
    · rcases hd with rfl | ⟨rfl, rfl⟩
      · repeat' first | ((first | refine Br.dec ?_ ?_ | refine Br.eqi ?_ ?_) <;> intro h <;> try (exfalso; omega)) | (simp (disch := first | omega | (simp only [vlen]; first | done | omega)) only [vpl, ↓vAq, vBq, ↓reduceIte, Nat.reduceBEq, Nat.reduceEqDiff, Nat.reduceLT, Nat.reduceLeDiff, Nat.reduceAdd, Nat.reduceMul, Nat.reduceSub, reduceCtorEq, Int.reduceToNat]) | (refine Br.mk ?_ ?_ <;> intro h) | (refine BrN.mk (fun h => ?_) ?_) | (refine AltVC.mk ?_ ?_)
        exact do_fin (L := L) ⟨0, 0, st, false⟩ (by simp (disch := first | omega | (simp only [vlen]; first | done | omega)) only [vpl, ↓vAq, vBq, ↓reduceIte, Nat.reduceBEq, Nat.reduceEqDiff, Nat.reduceLT, Nat.reduceLeDiff, Nat.reduceAdd, Nat.reduceMul, Nat.reduceSub, reduceCtorEq, Int.reduceToNat]) (by rw [en]; unfold stB; simp (disch := first | omega | (simp only [vlen]; first | done | omega)) only [vpl, ↓vAq, vBq, ↓reduceIte, Nat.reduceBEq, Nat.reduceEqDiff, Nat.reduceLT, Nat.reduceLeDiff, Nat.reduceAdd, Nat.reduceMul, Nat.reduceSub, reduceCtorEq, Int.reduceToNat]) (by simp (disch := first | omega | (simp only [vlen]; first | done | omega)) only [vpl, ↓vAq, vBq, ↓reduceIte, Nat.reduceBEq, Nat.reduceEqDiff, Nat.reduceLT, Nat.reduceLeDiff, Nat.reduceAdd, Nat.reduceMul, Nat.reduceSub, reduceCtorEq, Int.reduceToNat]) ⟨.pick h4 e r st hi hr hT, fun h => by cases h⟩ (by rw [en]; exact hL)
      · repeat' first | ((first | refine Br.dec ?_ ?_ | refine Br.eqi ?_ ?_) <;> intro h <;> try (exfalso; omega)) | (simp (disch := first | omega | (simp only [vlen]; first | done | omega)) only [vpl, ↓vAq, vBq, ↓reduceIte, Nat.reduceBEq, Nat.reduceEqDiff, Nat.reduceLT, Nat.reduceLeDiff, Nat.reduceAdd, Nat.reduceMul, Nat.reduceSub, reduceCtorEq, Int.reduceToNat]) | (refine Br.mk ?_ ?_ <;> intro h) | (refine BrN.mk (fun h => ?_) ?_) | (refine AltVC.mk ?_ ?_)
        exact do_fin (L := L) ⟨0, 0, [], true⟩ (by simp (disch := first | omega | (simp only [vlen]; first | done | omega)) only [vpl, ↓vAq, vBq, ↓reduceIte, Nat.reduceBEq, Nat.reduceEqDiff, Nat.reduceLT, Nat.reduceLeDiff, Nat.reduceAdd, Nat.reduceMul, Nat.reduceSub, reduceCtorEq, Int.reduceToNat]) (by rw [en]; unfold stB; simp (disch := first | omega | (simp only [vlen]; first | done | omega)) only [vpl, ↓vAq, vBq, ↓reduceIte, Nat.reduceBEq, Nat.reduceEqDiff, Nat.reduceLT, Nat.reduceLeDiff, Nat.reduceAdd, Nat.reduceMul, Nat.reduceSub, reduceCtorEq, Int.reduceToNat]) (by simp (disch := first | omega | (simp only [vlen]; first | done | omega)) only [vpl, ↓vAq, vBq, ↓reduceIte, Nat.reduceBEq, Nat.reduceEqDiff, Nat.reduceLT, Nat.reduceLeDiff, Nat.reduceAdd, Nat.reduceMul, Nat.reduceSub, reduceCtorEq, Int.reduceToNat]) ⟨.pick h4 e r [] hi hr hT, fun _ => rfl⟩ (by rw [en]; exact hL)
  by_cases h5 : d.kind = 5
  · repeat' first | ((first | refine Br.dec ?_ ?_ | refine Br.eqi ?_ ?_) <;> intro h <;> try (exfalso; omega)) | (simp (disch := first | omega | (simp only [vlen]; first | done | omega)) only [vpl, ↓vAq, vBq, ↓reduceIte, Nat.reduceBEq, Nat.reduceEqDiff, Nat.reduceLT, Nat.reduceLeDiff, Nat.reduceAdd, Nat.reduceMul, Nat.reduceSub, reduceCtorEq, Int.reduceToNat]) | (refine Br.mk ?_ ?_ <;> intro h) | (refine BrN.mk (fun h => ?_) ?_) | (refine AltVC.mk ?_ ?_)
    refine GhoV.go ?_
    repeat' first | ((first | refine Br.dec ?_ ?_ | refine Br.eqi ?_ ?_) <;> intro h <;> try (exfalso; omega)) | (simp (disch := first | omega | (simp only [vlen]; first | done | omega)) only [vpl, ↓vAq, vBq, ↓reduceIte, Nat.reduceBEq, Nat.reduceEqDiff, Nat.reduceLT, Nat.reduceLeDiff, Nat.reduceAdd, Nat.reduceMul, Nat.reduceSub, reduceCtorEq, Int.reduceToNat]) | (refine Br.mk ?_ ?_ <;> intro h) | (refine BrN.mk (fun h => ?_) ?_) | (refine AltVC.mk ?_ ?_)
    refine CallVC.mk (place2_spec g hg d.word hwl d.steps hsl) ?_
    rintro _ (⟨e, rfl⟩ | ⟨e, hl, rfl⟩ | ⟨e, hl, hno, rfl⟩ | ⟨e, hl, K, hT, rfl⟩)
    · repeat' first | ((first | refine Br.dec ?_ ?_ | refine Br.eqi ?_ ?_) <;> intro h <;> try (exfalso; omega)) | (simp (disch := first | omega | (simp only [vlen]; first | done | omega)) only [vpl, ↓vAq, vBq, ↓reduceIte, Nat.reduceBEq, Nat.reduceEqDiff, Nat.reduceLT, Nat.reduceLeDiff, Nat.reduceAdd, Nat.reduceMul, Nat.reduceSub, reduceCtorEq, Int.reduceToNat]) | (refine Br.mk ?_ ?_ <;> intro h) | (refine BrN.mk (fun h => ?_) ?_) | (refine AltVC.mk ?_ ?_)
      exact do_fin (L := L) ⟨trC g d.word, 0, [], true⟩ (by simp (disch := first | omega | (simp only [vlen]; first | done | omega)) only [vpl, ↓vAq, vBq, ↓reduceIte, Nat.reduceBEq, Nat.reduceEqDiff, Nat.reduceLT, Nat.reduceLeDiff, Nat.reduceAdd, Nat.reduceMul, Nat.reduceSub, reduceCtorEq, Int.reduceToNat]) (by rw [en]; unfold stB; simp (disch := first | omega | (simp only [vlen]; first | done | omega)) only [vpl, ↓vAq, vBq, ↓reduceIte, Nat.reduceBEq, Nat.reduceEqDiff, Nat.reduceLT, Nat.reduceLeDiff, Nat.reduceAdd, Nat.reduceMul, Nat.reduceSub, reduceCtorEq, Int.reduceToNat]) (by simp (disch := first | omega | (simp only [vlen]; first | done | omega)) only [vpl, ↓vAq, vBq, ↓reduceIte, Nat.reduceBEq, Nat.reduceEqDiff, Nat.reduceLT, Nat.reduceLeDiff, Nat.reduceAdd, Nat.reduceMul, Nat.reduceSub, reduceCtorEq, Int.reduceToNat]) ⟨.plC h5 e, fun _ => rfl⟩ (by rw [en]; exact hL)
    · repeat' first | ((first | refine Br.dec ?_ ?_ | refine Br.eqi ?_ ?_) <;> intro h <;> try (exfalso; omega)) | (simp (disch := first | omega | (simp only [vlen]; first | done | omega)) only [vpl, ↓vAq, vBq, ↓reduceIte, Nat.reduceBEq, Nat.reduceEqDiff, Nat.reduceLT, Nat.reduceLeDiff, Nat.reduceAdd, Nat.reduceMul, Nat.reduceSub, reduceCtorEq, Int.reduceToNat]) | (refine Br.mk ?_ ?_ <;> intro h) | (refine BrN.mk (fun h => ?_) ?_) | (refine AltVC.mk ?_ ?_)
      exact do_fin (L := L) ⟨1, 0, [], true⟩ (by simp (disch := first | omega | (simp only [vlen]; first | done | omega)) only [vpl, ↓vAq, vBq, ↓reduceIte, Nat.reduceBEq, Nat.reduceEqDiff, Nat.reduceLT, Nat.reduceLeDiff, Nat.reduceAdd, Nat.reduceMul, Nat.reduceSub, reduceCtorEq, Int.reduceToNat]) (by rw [en]; unfold stB; simp (disch := first | omega | (simp only [vlen]; first | done | omega)) only [vpl, ↓vAq, vBq, ↓reduceIte, Nat.reduceBEq, Nat.reduceEqDiff, Nat.reduceLT, Nat.reduceLeDiff, Nat.reduceAdd, Nat.reduceMul, Nat.reduceSub, reduceCtorEq, Int.reduceToNat]) (by simp (disch := first | omega | (simp only [vlen]; first | done | omega)) only [vpl, ↓vAq, vBq, ↓reduceIte, Nat.reduceBEq, Nat.reduceEqDiff, Nat.reduceLT, Nat.reduceLeDiff, Nat.reduceAdd, Nat.reduceMul, Nat.reduceSub, reduceCtorEq, Int.reduceToNat]) ⟨.plL h5 e hl, fun _ => rfl⟩ (by rw [en]; exact hL)
    · repeat' first | ((first | refine Br.dec ?_ ?_ | refine Br.eqi ?_ ?_) <;> intro h <;> try (exfalso; omega)) | (simp (disch := first | omega | (simp only [vlen]; first | done | omega)) only [vpl, ↓vAq, vBq, ↓reduceIte, Nat.reduceBEq, Nat.reduceEqDiff, Nat.reduceLT, Nat.reduceLeDiff, Nat.reduceAdd, Nat.reduceMul, Nat.reduceSub, reduceCtorEq, Int.reduceToNat]) | (refine Br.mk ?_ ?_ <;> intro h) | (refine BrN.mk (fun h => ?_) ?_) | (refine AltVC.mk ?_ ?_)
      exact do_fin (L := L) ⟨5, 0, [], true⟩ (by simp (disch := first | omega | (simp only [vlen]; first | done | omega)) only [vpl, ↓vAq, vBq, ↓reduceIte, Nat.reduceBEq, Nat.reduceEqDiff, Nat.reduceLT, Nat.reduceLeDiff, Nat.reduceAdd, Nat.reduceMul, Nat.reduceSub, reduceCtorEq, Int.reduceToNat]) (by rw [en]; unfold stB; simp (disch := first | omega | (simp only [vlen]; first | done | omega)) only [vpl, ↓vAq, vBq, ↓reduceIte, Nat.reduceBEq, Nat.reduceEqDiff, Nat.reduceLT, Nat.reduceLeDiff, Nat.reduceAdd, Nat.reduceMul, Nat.reduceSub, reduceCtorEq, Int.reduceToNat]) (by simp (disch := first | omega | (simp only [vlen]; first | done | omega)) only [vpl, ↓vAq, vBq, ↓reduceIte, Nat.reduceBEq, Nat.reduceEqDiff, Nat.reduceLT, Nat.reduceLeDiff, Nat.reduceAdd, Nat.reduceMul, Nat.reduceSub, reduceCtorEq, Int.reduceToNat]) ⟨.plN h5 e hl hno, fun _ => rfl⟩ (by rw [en]; exact hL)
    · repeat' first | ((first | refine Br.dec ?_ ?_ | refine Br.eqi ?_ ?_) <;> intro h <;> try (exfalso; omega)) | (simp (disch := first | omega | (simp only [vlen]; first | done | omega)) only [vpl, ↓vAq, vBq, ↓reduceIte, Nat.reduceBEq, Nat.reduceEqDiff, Nat.reduceLT, Nat.reduceLeDiff, Nat.reduceAdd, Nat.reduceMul, Nat.reduceSub, reduceCtorEq, Int.reduceToNat]) | (refine Br.mk ?_ ?_ <;> intro h) | (refine BrN.mk (fun h => ?_) ?_) | (refine AltVC.mk ?_ ?_)
      exact do_fin (L := L) ⟨0, K, [], true⟩ (by simp (disch := first | omega | (simp only [vlen]; first | done | omega)) only [vpl, ↓vAq, vBq, ↓reduceIte, Nat.reduceBEq, Nat.reduceEqDiff, Nat.reduceLT, Nat.reduceLeDiff, Nat.reduceAdd, Nat.reduceMul, Nat.reduceSub, reduceCtorEq, Int.reduceToNat]) (by rw [en]; unfold stB; simp (disch := first | omega | (simp only [vlen]; first | done | omega)) only [vpl, ↓vAq, vBq, ↓reduceIte, Nat.reduceBEq, Nat.reduceEqDiff, Nat.reduceLT, Nat.reduceLeDiff, Nat.reduceAdd, Nat.reduceMul, Nat.reduceSub, reduceCtorEq, Int.reduceToNat]) (by simp (disch := first | omega | (simp only [vlen]; first | done | omega)) only [vpl, ↓vAq, vBq, ↓reduceIte, Nat.reduceBEq, Nat.reduceEqDiff, Nat.reduceLT, Nat.reduceLeDiff, Nat.reduceAdd, Nat.reduceMul, Nat.reduceSub, reduceCtorEq, Int.reduceToNat]) ⟨.pl h5 e hl K hT, fun _ => rfl⟩ (by rw [en]; exact hL)
  · repeat' first | ((first | refine Br.dec ?_ ?_ | refine Br.eqi ?_ ?_) <;> intro h <;> try (exfalso; omega)) | (simp (disch := first | omega | (simp only [vlen]; first | done | omega)) only [vpl, ↓vAq, vBq, ↓reduceIte, Nat.reduceBEq, Nat.reduceEqDiff, Nat.reduceLT, Nat.reduceLeDiff, Nat.reduceAdd, Nat.reduceMul, Nat.reduceSub, reduceCtorEq, Int.reduceToNat]) | (refine Br.mk ?_ ?_ <;> intro h) | (refine BrN.mk (fun h => ?_) ?_) | (refine AltVC.mk ?_ ?_)
    exact do_fin (L := L) ⟨6, 0, [], true⟩ (by simp (disch := first | omega | (simp only [vlen]; first | done | omega)) only [vpl, ↓vAq, vBq, ↓reduceIte, Nat.reduceBEq, Nat.reduceEqDiff, Nat.reduceLT, Nat.reduceLeDiff, Nat.reduceAdd, Nat.reduceMul, Nat.reduceSub, reduceCtorEq, Int.reduceToNat]) (by rw [en]; unfold stB; simp (disch := first | omega | (simp only [vlen]; first | done | omega)) only [vpl, ↓vAq, vBq, ↓reduceIte, Nat.reduceBEq, Nat.reduceEqDiff, Nat.reduceLT, Nat.reduceLeDiff, Nat.reduceAdd, Nat.reduceMul, Nat.reduceSub, reduceCtorEq, Int.reduceToNat]) (by simp (disch := first | omega | (simp only [vlen]; first | done | omega)) only [vpl, ↓vAq, vBq, ↓reduceIte, Nat.reduceBEq, Nat.reduceEqDiff, Nat.reduceLT, Nat.reduceLeDiff, Nat.reduceAdd, Nat.reduceMul, Nat.reduceSub, reduceCtorEq, Int.reduceToNat]) ⟨.none (by omega), fun _ => rfl⟩ (by rw [en]; exact hL)
def tlS (t : Tl) : List D := [iv .i64 t.c, iv .i64 t.n, .sl 1 (i64s t.st)]
theorem tlS_eq {t : Tl} : tlS t = [iv .i64 t.c, iv .i64 t.n, .sl 1 (i64s t.st)] := (rfl)
def g0 (k n : Int) : Grammar := ⟨k, n, 0, []⟩
def TRs (g : Grammar) (ds : List Deed) (l : List Tl) : Prop := l.length = ds.length ∧ ∀ i, i < l.length → TR (nxs g (ds.take i)) (ds.getD i default) (l.getD i default)
def plyR (k n : Int) (ds : List Deed) (d : D) : Prop :=
  (gcode (g0 k n) ≠ 0 ∧ d = .tu [.sl 3 [], iv .i64 (gcode (g0 k n))]) ∨ (gcode (g0 k n) = 0 ∧ 40 < ds.length ∧ d = .tu [.sl 3 [], iv .i64 1]) ∨
  (gcode (g0 k n) = 0 ∧ ds.length ≤ 40 ∧ ∃ l, d = .tu [.sl 3 (tbl tlS l), iv .i64 0] ∧ TRs (g0 k n) ds l)
theorem TRs.snoc {g : Grammar} {ds : List Deed} {i : Nat} {l : List Tl} {t : Tl} (hi : i < ds.length) (h : TRs g (ds.take i) l) (ht : TR (nxs g (ds.take i)) (ds.getD i default) t) : TRs g (ds.take (i + 1)) (l ++ [t]) := by
  have hl : l.length = i := by rw [h.1, List.length_take]; omega
  refine ⟨by simp [hl]; omega, fun j hj => ?_⟩
  have hj' : j < i + 1 := by simpa [hl] using hj
  rw [List.take_take, Nat.min_eq_left (by omega)]
  by_cases e : j = i
  · subst e
    have e1 : (ds.take (j + 1)).getD j default = ds.getD j default := by simp [List.getD_eq_getElem?_getD]
    have e2 : (l ++ [t]).getD j default = t := by simp [List.getD_eq_getElem?_getD, ← hl]
    rw [e1, e2]; exact ht
  · have hji : j < i := by omega
    have h3 := h.2 j (by omega)
    rw [List.take_take, Nat.min_eq_left (by omega)] at h3
    have e1 : (ds.take (i + 1)).getD j default = (ds.take i).getD j default := by simp [List.getD_eq_getElem?_getD, hji, hj']
    have e2 : (l ++ [t]).getD j default = l.getD j default := by simp [List.getD_eq_getElem?_getD, List.getElem?_append_left (show j < l.length by omega)]
    rw [e1, e2]; exact h3
theorem nxs_take {g : Grammar} {ds : List Deed} {i : Nat} (hi : i < ds.length) : nxs g (ds.take (i + 1)) = nxG (nxs g (ds.take i)) (ds.getD i default) := by
  rw [take_succ_getD hi default, nxs_snoc]
theorem VG0 {k n : Int} (h : gcode (g0 k n) = 0) : VG (g0 k n) := ⟨h, rfl⟩
theorem ok_nxs {g : Grammar} (hv : VG g) (hg : g.ok) : ∀ {l : List Deed}, (∀ d, d ∈ l → d.ok) → (nxs g l).ok := fun {l} hl => by
  induction l generalizing g with
  | nil => exact hg
  | cons d l ih => exact ih (hv.nx d) (ok_nx hv hg (hl d (by simp))) fun x hx => hl x (by simp [hx])
end Go.Proofs.Ytjekkbpdgnohcaa

namespace Go.Proofs.Ytjekkbpdgnohcaa
open Go.Dm
set_option linter.unusedSimpArgs false
set_option linter.unnecessarySimpa false
set_option linter.unusedVariables false
set_option linter.defProp false
theorem g0_graD {k n : Int} : graD (g0 k n) = [iv .i64 k, iv .i64 n, iv .i64 0, .sl 2 []] := (rfl)
theorem kBldS_iiin {cells : List D} {off : Nat} {k k' k'' : IntKind} {a b c : Int} {go : List D → Prop} : kBldS off 4 cells go [.v (.int k a), .v (.int k' b), .v (.int k'' c), .nl] = ChkD (off + 4 ≤ cells.length) (splice cells off [.v (.int k a), .v (.int k' b), .v (.int k'' c), .nl]) go := by
  rw [kBldS_n]; unfold ChkD; simp [D.one, Value.one]
theorem okD_ok {l : List Deed} (h : okL okD l) : ∀ d, d ∈ l → d.ok := fun d hd => (h.2 d hd).1
theorem Le_slN {sz : Nat} {es es' : List (List D)} (hl : es.length = es'.length) (h1 : ∀ i, i < es.length → (es'.getD i []).length = (es.getD i []).length) (h : ∀ i j, i < es.length → j < (es.getD i []).length → ((es.getD i []).getD j .junk).Le ((es'.getD i []).getD j .junk)) : (D.sl sz es).Le (.sl sz es') := fun w A x hx => by
  cases hx with
  | sl0 sz b c =>
    have : es' = [] := List.eq_nil_of_length_eq_zero (by simpa using hl.symm)
    subst this
    exact .sl0 sz _ _
  | sl sz es b off n c us hA hn hcap hsz hc hr =>
    exact .sl sz es' b off n c us hA (by omega) hcap (fun i hi => by rw [h1 i (by omega)]; exact hsz i (by omega)) (fun i j hi hj => hc i j (by omega) hj) (fun i j hi hj => h i j (by omega) (by rw [hsz i (by omega)]; exact hj) _ _ _ (hr i j (by omega) hj))
theorem tl_le {l : List Tl} (h : ∀ t, t ∈ l → t.z = true → t.st = []) : (D.sl 3 (tbl tlD l)).Le (.sl 3 (tbl tlS l)) := by
  have row : ∀ (f : Tl → List D) {i : Nat}, i < l.length → (tbl f l).getD i [] = f (l.getD i default) := fun f {i} hi => by simp [tbl, List.getD_eq_getElem?_getD, hi]
  refine Le_slN (by simp [tbl]) (fun i hi => ?_) (fun i j hi hj => ?_)
  · have hi' : i < l.length := by simpa [tbl] using hi
    rw [row _ hi', row _ hi']; rfl
  · have hi' : i < l.length := by simpa [tbl] using hi
    have hm := h _ (getD_mem' hi')
    rw [row _ hi'] at hj
    rw [row _ hi', row _ hi']
    generalize l.getD i default = t at *
    match j, hj with
    | 0, _ => exact Le_refl _
    | 1, _ => exact Le_refl _
    | 2, _ =>
      show (stnD t).Le (.sl 1 (i64s t.st))
      unfold stnD
      split
      · next hz => rw [hm hz]; exact Le_nl 1
      · exact Le_refl _
theorem TRs.z {g : Grammar} {ds : List Deed} {l : List Tl} (h : TRs g ds l) : ∀ t, t ∈ l → t.z = true → t.st = [] := fun t ht => by
  obtain ⟨i, hi, rfl⟩ := List.mem_iff_getElem.1 ht
  have := (h.2 i hi).2
  simpa [List.getD_eq_getElem?_getD, hi] using this
set_option maxRecDepth 10000 in
set_option maxHeartbeats 4000000 in
theorem play_spec (k n : Int) (hk : ok64 k) (hn : ok64 n) (ds : List Deed) (hs : okL okD ds) : Dm.Spec Try.prog 9 [iv .i64 k, iv .i64 n, .sl 6 (tbl deeD ds)] (fun d => plyR k n ds d) := by
  refine spec_of_vc mixed Try.func9 c9 (by rw [show Try.f9.ntmps = _ from Try.ntmps9]; simp) ?_
  unfold m9 r9
  have hok0 : (g0 k n).ok := ⟨hk, hn, show ok64 0 from ⟨by decide, by decide⟩, Nat.zero_le _, fun x hx => by cases hx⟩
  have hck := gCheck_spec (g0 k n) hok0
  have hdl := maxLen_le hs.1
  rw [g0_graD] at hck
  have hle : Les [D.ag [iv .i64 k, iv .i64 n, iv .i64 0, .nl]] [D.ag [iv .i64 k, iv .i64 n, iv .i64 0, .sl 2 []]] := .cons (Le_ag rfl fun i hi => by
    match i, hi with
    | 0, _ => exact Le_refl _
    | 1, _ => exact Le_refl _
    | 2, _ => exact Le_refl _
    | 3, _ => exact Le_nl 2) .nil
  repeat' first | ((first | refine Br.dec ?_ ?_ | refine Br.eqi ?_ ?_) <;> intro h <;> try (exfalso; omega)) | (simp (disch := first | omega | (simp only [vlen]; first | done | omega)) only [kBldS_iiin, vpl, ↓vAq, vBq, ↓reduceIte, Nat.reduceBEq, Nat.reduceEqDiff, Nat.reduceLT, Nat.reduceLeDiff, Nat.reduceAdd, Nat.reduceMul, Nat.reduceSub, reduceCtorEq, Int.reduceToNat]) | (refine Br.mk ?_ ?_ <;> intro h) | (refine BrN.mk (fun h => ?_) ?_) | (refine AltVC.mk ?_ ?_)
  refine CallVC.lendE [1] [.ptr 0 5 0 0, .nl] [⟨5, [[iv .i64 k, iv .i64 n, iv .i64 0, .nl, .v (.map none)]], true, false, .fix⟩] (set0_spec k n) (by simp) (by rfl) (by (simp (disch := first | omega | (simp only [vlen]; first | done | omega)) only [vle0, ↓vAq, vBq, ↓reduceIte, Nat.reduceBEq, Nat.reduceEqDiff, Nat.reduceLT, Nat.reduceLeDiff, Nat.reduceAdd, Nat.reduceMul, Nat.reduceSub, reduceCtorEq, Int.reduceToNat] <;> (repeat' first | rfl | apply And.intro))) ?_
  rintro _ _ ⟨rfl, rfl⟩
  repeat' first | ((first | refine Br.dec ?_ ?_ | refine Br.eqi ?_ ?_) <;> intro h <;> try (exfalso; omega)) | (simp (disch := first | omega | (simp only [vlen]; first | done | omega)) only [vpl, ↓vAq, vBq, ↓reduceIte, Nat.reduceBEq, Nat.reduceEqDiff, Nat.reduceLT, Nat.reduceLeDiff, Nat.reduceAdd, Nat.reduceMul, Nat.reduceSub, reduceCtorEq, Int.reduceToNat]) | (refine Br.mk ?_ ?_ <;> intro h) | (refine BrN.mk (fun h => ?_) ?_) | (refine AltVC.mk ?_ ?_)
  refine GhoV.go ?_
  repeat' first | ((first | refine Br.dec ?_ ?_ | refine Br.eqi ?_ ?_) <;> intro h <;> try (exfalso; omega)) | (simp (disch := first | omega | (simp only [vlen]; first | done | omega)) only [vpl, ↓vAq, vBq, ↓reduceIte, Nat.reduceBEq, Nat.reduceEqDiff, Nat.reduceLT, Nat.reduceLeDiff, Nat.reduceAdd, Nat.reduceMul, Nat.reduceSub, reduceCtorEq, Int.reduceToNat]) | (refine Br.mk ?_ ?_ <;> intro h) | (refine BrN.mk (fun h => ?_) ?_) | (refine AltVC.mk ?_ ?_)
  refine CallVC.les hle hck ?_
  by_cases h0 : gcode (g0 k n) = 0
  · rw [h0]
    have hv := VG0 h0
    by_cases h40 : 40 < ds.length
    · repeat' first | ((first | refine Br.dec ?_ ?_ | refine Br.eqi ?_ ?_) <;> intro h <;> try (exfalso; omega)) | (simp (disch := first | omega | (simp only [vlen]; first | done | omega)) only [vpl, ↓vAq, vBq, ↓reduceIte, Nat.reduceBEq, Nat.reduceEqDiff, Nat.reduceLT, Nat.reduceLeDiff, Nat.reduceAdd, Nat.reduceMul, Nat.reduceSub, reduceCtorEq, Int.reduceToNat]) | (refine Br.mk ?_ ?_ <;> intro h) | (refine BrN.mk (fun h => ?_) ?_) | (refine AltVC.mk ?_ ?_)
      exact fin_mk (.inr (.inl ⟨h0, h40, rfl⟩))
    · repeat' first | ((first | refine Br.dec ?_ ?_ | refine Br.eqi ?_ ?_) <;> intro h <;> try (exfalso; omega)) | (simp (disch := first | omega | (simp only [vlen]; first | done | omega)) only [vpl, ↓vAq, vBq, ↓reduceIte, Nat.reduceBEq, Nat.reduceEqDiff, Nat.reduceLT, Nat.reduceLeDiff, Nat.reduceAdd, Nat.reduceMul, Nat.reduceSub, reduceCtorEq, Int.reduceToNat]) | (refine Br.mk ?_ ?_ <;> intro h) | (refine BrN.mk (fun h => ?_) ?_) | (refine AltVC.mk ?_ ?_)
      refine LoopVC.wk 1 0 3 (.sl 2 []) ?_
      repeat' first | ((first | refine Br.dec ?_ ?_ | refine Br.eqi ?_ ?_) <;> intro h <;> try (exfalso; omega)) | (simp (disch := first | omega | (simp only [vlen]; first | done | omega)) only [vpl, ↓vAq, vBq, ↓reduceIte, Nat.reduceBEq, Nat.reduceEqDiff, Nat.reduceLT, Nat.reduceLeDiff, Nat.reduceAdd, Nat.reduceMul, Nat.reduceSub, reduceCtorEq, Int.reduceToNat]) | (refine Br.mk ?_ ?_ <;> intro h) | (refine BrN.mk (fun h => ?_) ?_) | (refine AltVC.mk ?_ ?_)
      refine ⟨Le_nl 2, ?_⟩
      repeat' first | ((first | refine Br.dec ?_ ?_ | refine Br.eqi ?_ ?_) <;> intro h <;> try (exfalso; omega)) | (simp (disch := first | omega | (simp only [vlen]; first | done | omega)) only [vpl, ↓vAq, vBq, ↓reduceIte, Nat.reduceBEq, Nat.reduceEqDiff, Nat.reduceLT, Nat.reduceLeDiff, Nat.reduceAdd, Nat.reduceMul, Nat.reduceSub, reduceCtorEq, Int.reduceToNat]) | (refine Br.mk ?_ ?_ <;> intro h) | (refine BrN.mk (fun h => ?_) ?_) | (refine AltVC.mk ?_ ?_)
      refine LoopVC.mk (X := Nat × List Tl × List AK) (fun x => [(10, .ref 2 3 0 x.1), (33, iv .i64 x.1)]) (fun x => [(1, stB (nxs (g0 k n) (ds.take x.1)) x.2.2), (2, ⟨3, tbl tlD x.2.1, true, false, .arr⟩)]) (fun x => ds.length - x.1)
        (fun x => x.1 ≤ ds.length ∧ TRs (g0 k n) (ds.take x.1) x.2.1 ∧ MA (nxs (g0 k n) (ds.take x.1)) x.2.2) (0, [], []) ⟨Nat.zero_le _, ⟨rfl, fun i hi => by simp at hi⟩, MA.nil⟩ ?_ ?_
      · unfold stB
        rw [List.take_zero, nxs_nil]
        (simp (disch := first | omega | (simp only [vlen]; first | done | omega)) only [Fits_u, Fits_m, Fits_nil, List.length_append, vpl, ↓vAq, vBq, ↓reduceIte, Nat.reduceBEq, Nat.reduceEqDiff, Nat.reduceLT, Nat.reduceLeDiff, Nat.reduceAdd, Nat.reduceMul, Nat.reduceSub, reduceCtorEq, Int.reduceToNat] <;> (repeat' first | rfl | apply And.intro))
        all_goals trace_state
      · rintro ⟨i, l, L⟩ ⟨hi, hT, hL⟩
        simp only at hi hT hL ⊢
        have hll : l.length = i := by rw [hT.1, List.length_take]; omega
        unfold stB
        by_cases hlt : i < ds.length
        · have hvi := hv.nxs (ds.take i)
          have hoi := ok_nxs hv hok0 (l := ds.take i) fun d hd => okD_ok hs d (List.mem_of_mem_take hd)
          have hdo := do_spec _ hvi hoi (ds.getD i default) (hs.2 _ (getD_mem' hlt)) L hL
          have hnx := nxs_take (g := g0 k n) hlt
          repeat' first | ((first | refine Br.dec ?_ ?_ | refine Br.eqi ?_ ?_) <;> intro h <;> try (exfalso; omega)) | (simp (disch := first | omega | (simp only [vlen]; first | done | omega)) only [vpl, ↓vAq, vBq, ↓reduceIte, Nat.reduceBEq, Nat.reduceEqDiff, Nat.reduceLT, Nat.reduceLeDiff, Nat.reduceAdd, Nat.reduceMul, Nat.reduceSub, reduceCtorEq, Int.reduceToNat]) | (refine Br.mk ?_ ?_ <;> intro h) | (refine BrN.mk (fun h => ?_) ?_) | (refine AltVC.mk ?_ ?_)
          refine CallVC.lendE [1] [.ptr 0 5 0 0, .ag (deeD (ds.getD i default))] [stB (nxs (g0 k n) (ds.take i)) L] hdo (by simp) (by rfl) (by unfold stB; (simp (disch := first | omega | (simp only [vlen]; first | done | omega)) only [vle0, ↓vAq, vBq, ↓reduceIte, Nat.reduceBEq, Nat.reduceEqDiff, Nat.reduceLT, Nat.reduceLeDiff, Nat.reduceAdd, Nat.reduceMul, Nat.reduceSub, reduceCtorEq, Int.reduceToNat] <;> (repeat' first | rfl | apply And.intro))) ?_
          rintro _ _ ⟨⟨c, m, st, z⟩, rfl, hR, L', rfl, hL'⟩
          unfold stB
          cases z with
          | true =>
            have hst : st = [] := hR.2 rfl
            subst hst
            repeat' first | ((first | refine Br.dec ?_ ?_ | refine Br.eqi ?_ ?_) <;> intro h <;> try (exfalso; omega)) | (simp (disch := first | omega | (simp only [vlen]; first | done | omega)) only [vpl, ↓vAq, vBq, ↓reduceIte, Nat.reduceBEq, Nat.reduceEqDiff, Nat.reduceLT, Nat.reduceLeDiff, Nat.reduceAdd, Nat.reduceMul, Nat.reduceSub, reduceCtorEq, Int.reduceToNat]) | (refine Br.mk ?_ ?_ <;> intro h) | (refine BrN.mk (fun h => ?_) ?_) | (refine AltVC.mk ?_ ?_)
            refine loopK.mk (i + 1, l ++ [⟨c, m, [], true⟩], L') (by simp (disch := first | omega | (simp only [vlen]; first | done | omega)) only [vpl, ↓vAq, vBq, ↓reduceIte, Nat.reduceBEq, Nat.reduceEqDiff, Nat.reduceLT, Nat.reduceLeDiff, Nat.reduceAdd, Nat.reduceMul, Nat.reduceSub, reduceCtorEq, Int.reduceToNat]) ⟨by show i + 1 ≤ ds.length; omega, hT.snoc hlt hR, by rw [hnx]; exact hL'⟩ (by show ds.length - (i + 1) < ds.length - i; omega) ?_
            rw [hnx]
            (simp (disch := first | omega | (simp only [vlen]; first | done | omega)) only [Fits_u, Fits_m, Fits_nil, List.length_append, vpl, ↓vAq, vBq, ↓reduceIte, Nat.reduceBEq, Nat.reduceEqDiff, Nat.reduceLT, Nat.reduceLeDiff, Nat.reduceAdd, Nat.reduceMul, Nat.reduceSub, reduceCtorEq, Int.reduceToNat] <;> (repeat' first | rfl | apply And.intro))
            all_goals trace_state
          | false =>
            repeat' first | ((first | refine Br.dec ?_ ?_ | refine Br.eqi ?_ ?_) <;> intro h <;> try (exfalso; omega)) | (simp (disch := first | omega | (simp only [vlen]; first | done | omega)) only [vpl, ↓vAq, vBq, ↓reduceIte, Nat.reduceBEq, Nat.reduceEqDiff, Nat.reduceLT, Nat.reduceLeDiff, Nat.reduceAdd, Nat.reduceMul, Nat.reduceSub, reduceCtorEq, Int.reduceToNat]) | (refine Br.mk ?_ ?_ <;> intro h) | (refine BrN.mk (fun h => ?_) ?_) | (refine AltVC.mk ?_ ?_)
            refine loopK.mk (i + 1, l ++ [⟨c, m, st, false⟩], L') (by simp (disch := first | omega | (simp only [vlen]; first | done | omega)) only [vpl, ↓vAq, vBq, ↓reduceIte, Nat.reduceBEq, Nat.reduceEqDiff, Nat.reduceLT, Nat.reduceLeDiff, Nat.reduceAdd, Nat.reduceMul, Nat.reduceSub, reduceCtorEq, Int.reduceToNat]) ⟨by show i + 1 ≤ ds.length; omega, hT.snoc hlt hR, by rw [hnx]; exact hL'⟩ (by show ds.length - (i + 1) < ds.length - i; omega) ?_
            rw [hnx]
            (simp (disch := first | omega | (simp only [vlen]; first | done | omega)) only [Fits_u, Fits_m, Fits_nil, List.length_append, vpl, ↓vAq, vBq, ↓reduceIte, Nat.reduceBEq, Nat.reduceEqDiff, Nat.reduceLT, Nat.reduceLeDiff, Nat.reduceAdd, Nat.reduceMul, Nat.reduceSub, reduceCtorEq, Int.reduceToNat] <;> (repeat' first | rfl | apply And.intro))
            all_goals trace_state
        · have hie : i = ds.length := by omega
          subst hie
          rw [List.take_length] at hT
          repeat' first | ((first | refine Br.dec ?_ ?_ | refine Br.eqi ?_ ?_) <;> intro h <;> try (exfalso; omega)) | (simp (disch := first | omega | (simp only [vlen]; first | done | omega)) only [vpl, ↓vAq, vBq, ↓reduceIte, Nat.reduceBEq, Nat.reduceEqDiff, Nat.reduceLT, Nat.reduceLeDiff, Nat.reduceAdd, Nat.reduceMul, Nat.reduceSub, reduceCtorEq, Int.reduceToNat]) | (refine Br.mk ?_ ?_ <;> intro h) | (refine BrN.mk (fun h => ?_) ?_) | (refine AltVC.mk ?_ ?_)
          exact fin_le (Le_tu2 (tl_le hT.z) (Le_refl _)) (.inr (.inr ⟨h0, by omega, l, rfl, hT⟩))
  · repeat' first | ((first | refine Br.dec ?_ ?_ | refine Br.eqi ?_ ?_) <;> intro h <;> try (exfalso; omega)) | (simp (disch := first | omega | (simp only [vlen]; first | done | omega)) only [vpl, ↓vAq, vBq, ↓reduceIte, Nat.reduceBEq, Nat.reduceEqDiff, Nat.reduceLT, Nat.reduceLeDiff, Nat.reduceAdd, Nat.reduceMul, Nat.reduceSub, reduceCtorEq, Int.reduceToNat]) | (refine Br.mk ?_ ?_ <;> intro h) | (refine BrN.mk (fun h => ?_) ?_) | (refine AltVC.mk ?_ ?_)
    exact fin_mk (.inl ⟨h0, rfl⟩)
end Go.Proofs.Ytjekkbpdgnohcaa

namespace Go.Proofs.Ytjekkbpdgnohcaa
open Go.Dm
set_option linter.unusedSimpArgs false
set_option linter.unnecessarySimpa false
set_option linter.unusedVariables false
theorem succ_allI {p : Nat → Prop} {i : Nat} (h : ∀ j, j < i → p j) (hi : p i) : ∀ j, j < i + 1 → p j := fun j hj => by
  by_cases e : j = i
  · exact e ▸ hi
  · exact h j (by omega)
theorem ext_dI {α : Type} {a b : List α} {d : α} (hl : a.length = b.length) (h : ∀ j, j < a.length → a.getD j d = b.getD j d) : a = b := by
  apply List.ext_getElem hl
  intro j h1 h2
  have := h j h1
  simpa [List.getD, h1, h2] using this
set_option maxRecDepth 10000 in
set_option maxHeartbeats 4000000 in
theorem intsI_spec (a b : List Int) (ha : a.length ≤ 9223372036854775807) (hb : b.length ≤ 9223372036854775807) : Dm.Spec Try.prog 24 [.sl 1 (i64s a), .sl 1 (i64s b)] (· = .v (.bool (decide (a = b)))) := by
  refine spec_of_vc mixed Try.func24 c24 (by rw [show Try.f24.ntmps = _ from Try.ntmps24]; simp) ?_
  unfold m24 r24
  repeat' first | ((first | refine Br.dec ?_ ?_ | refine Br.eqi ?_ ?_) <;> intro h <;> try (exfalso; omega)) | (simp (disch := first | omega | (simp only [vlen]; first | done | omega)) only [↓vAq, vBq, ↓reduceIte, Nat.reduceBEq, Nat.reduceEqDiff, Nat.reduceLT, Nat.reduceLeDiff, Nat.reduceAdd, Nat.reduceMul, Nat.reduceSub, reduceCtorEq, Int.reduceToNat]) | (refine Br.mk ?_ ?_ <;> intro h) | (refine BrN.mk (fun h => ?_) ?_) | (refine AltVC.mk ?_ ?_)
  · refine LoopVC.mk (X := Nat) (fun i => [(5, iv .i64 i)]) (fun _ => []) (fun i => a.length - i) (fun i => i ≤ a.length ∧ ∀ j, j < i → a.getD j 0 = b.getD j 0) 0 ⟨by omega, by omega⟩ ?_ ?_
    · (simp (disch := first | omega | (simp only [vlen]; first | done | omega)) only [Fits_u, Fits_m, Fits_nil, List.length_append, ↓vAq, vBq, ↓reduceIte, Nat.reduceBEq, Nat.reduceEqDiff, Nat.reduceLT, Nat.reduceLeDiff, Nat.reduceAdd, Nat.reduceMul, Nat.reduceSub, reduceCtorEq, Int.reduceToNat] <;> (repeat' first | rfl | apply And.intro))
    · rintro i ⟨h1, h2⟩
      repeat' first | ((first | refine Br.dec ?_ ?_ | refine Br.eqi ?_ ?_) <;> intro h <;> try (exfalso; omega)) | (simp (disch := first | omega | (simp only [vlen]; first | done | omega)) only [↓vAq, vBq, ↓reduceIte, Nat.reduceBEq, Nat.reduceEqDiff, Nat.reduceLT, Nat.reduceLeDiff, Nat.reduceAdd, Nat.reduceMul, Nat.reduceSub, reduceCtorEq, Int.reduceToNat]) | (refine Br.mk ?_ ?_ <;> intro h) | (refine BrN.mk (fun h => ?_) ?_) | (refine AltVC.mk ?_ ?_)
      · exact loopK.mk (i + 1) (by simp (disch := first | omega | (simp only [vlen]; first | done | omega)) only [↓vAq, vBq, ↓reduceIte, Nat.reduceBEq, Nat.reduceEqDiff, Nat.reduceLT, Nat.reduceLeDiff, Nat.reduceAdd, Nat.reduceMul, Nat.reduceSub, reduceCtorEq, Int.reduceToNat]) ⟨by omega, succ_allI h2 (by assumption)⟩ (by omega) (by (simp (disch := first | omega | (simp only [vlen]; first | done | omega)) only [Fits_u, Fits_m, Fits_nil, List.length_append, ↓vAq, vBq, ↓reduceIte, Nat.reduceBEq, Nat.reduceEqDiff, Nat.reduceLT, Nat.reduceLeDiff, Nat.reduceAdd, Nat.reduceMul, Nat.reduceSub, reduceCtorEq, Int.reduceToNat] <;> (repeat' first | rfl | apply And.intro)))
      · exact fin_mk (vbEq (decide_eq_false (fun e => by subst e; contradiction)).symm)
      · exact fin_mk (vbEq (decide_eq_true (ext_dI (d := 0) (by omega) (fun j hj => h2 j (by omega)))).symm)
  · exact fin_mk (vbEq (by rw [decide_eq_false (fun e => by subst e; omega)]))
end Go.Proofs.Ytjekkbpdgnohcaa

namespace Go.Proofs.Ytjekkbpdgnohcaa
open Go.Dm
set_option linter.unusedSimpArgs false
set_option linter.unnecessarySimpa false
set_option linter.unusedVariables false
set_option linter.defProp false
def mayB (k n : Int) (m : Nat) : Bool := decide (1 ≤ k ∧ k ≤ 3 ∧ 1 ≤ n ∧ n ≤ 5 ∧ m ≤ 40)
set_option maxRecDepth 10000 in
set_option maxHeartbeats 4000000 in
theorem may_spec (k n : Int) (ds : List Deed) (hs : ds.length ≤ 9223372036854775807) : Dm.Spec Try.prog 10 [iv .i64 k, iv .i64 n, .sl 6 (tbl deeD ds)] (· = .v (.bool (mayB k n ds.length))) := by
  refine spec_of_vc mixed Try.func10 c10 (by rw [show Try.f10.ntmps = _ from Try.ntmps10]; simp) ?_
  unfold m10 r10
  repeat' first | ((first | refine Br.dec ?_ ?_ | refine Br.eqi ?_ ?_) <;> intro h <;> try (exfalso; omega)) | (simp (disch := first | omega | (simp only [vlen]; first | done | omega)) only [vpl, ↓vAq, vBq, ↓reduceIte, Nat.reduceBEq, Nat.reduceEqDiff, Nat.reduceLT, Nat.reduceLeDiff, Nat.reduceAdd, Nat.reduceMul, Nat.reduceSub, reduceCtorEq, Int.reduceToNat]) | (refine Br.mk ?_ ?_ <;> intro h) | (refine BrN.mk (fun h => ?_) ?_) | (refine AltVC.mk ?_ ?_)
  all_goals (refine fin_mk (vbEq ?_); unfold mayB; first | exact (decide_eq_true (by omega)).symm | exact (decide_eq_false (by omega)).symm | exact dec_iff (by omega))
def samT (a b : Tl) : Bool := decide (a.c = b.c ∧ a.n = b.n ∧ a.st = b.st)
set_option maxRecDepth 10000 in
set_option maxHeartbeats 4000000 in
theorem same_spec (a b : Tl) (ha : a.st.length ≤ 9223372036854775807) (hb : b.st.length ≤ 9223372036854775807) : Dm.Spec Try.prog 11 [.ag (tlS a), .ag (tlS b)] (· = .v (.bool (samT a b))) := by
  refine spec_of_vc mixed Try.func11 c11 (by rw [show Try.f11.ntmps = _ from Try.ntmps11]; simp) ?_
  unfold m11 r11
  repeat' first | ((first | refine Br.dec ?_ ?_ | refine Br.eqi ?_ ?_) <;> intro h <;> try (exfalso; omega)) | (simp (disch := first | omega | (simp only [vlen]; first | done | omega)) only [tlS_eq, vpl, ↓vAq, vBq, ↓reduceIte, Nat.reduceBEq, Nat.reduceEqDiff, Nat.reduceLT, Nat.reduceLeDiff, Nat.reduceAdd, Nat.reduceMul, Nat.reduceSub, reduceCtorEq, Int.reduceToNat]) | (refine Br.mk ?_ ?_ <;> intro h) | (refine BrN.mk (fun h => ?_) ?_) | (refine AltVC.mk ?_ ?_)
  · refine CallVC.eq (intsI_spec a.st b.st ha hb) ?_
    repeat' first | ((first | refine Br.dec ?_ ?_ | refine Br.eqi ?_ ?_) <;> intro h <;> try (exfalso; omega)) | (simp (disch := first | omega | (simp only [vlen]; first | done | omega)) only [tlS_eq, vpl, ↓vAq, vBq, ↓reduceIte, Nat.reduceBEq, Nat.reduceEqDiff, Nat.reduceLT, Nat.reduceLeDiff, Nat.reduceAdd, Nat.reduceMul, Nat.reduceSub, reduceCtorEq, Int.reduceToNat]) | (refine Br.mk ?_ ?_ <;> intro h) | (refine BrN.mk (fun h => ?_) ?_) | (refine AltVC.mk ?_ ?_)
    exact fin_mk (vbEq (by unfold samT; congr 1; exact propext ⟨fun e => ⟨by assumption, by assumption, e⟩, fun e => e.2.2⟩))
  · exact fin_mk (vbEq (by unfold samT; rw [decide_eq_false (fun e => absurd e.2.1 (by assumption))]))
  · exact fin_mk (vbEq (by unfold samT; rw [decide_eq_false (fun e => absurd e.1 (by assumption))]))
theorem gcode0 {k n : Int} : gcode (g0 k n) = 0 ↔ 1 ≤ k ∧ k ≤ 3 ∧ 1 ≤ n ∧ n ≤ 5 := by
  refine ⟨fun h => ?_, fun h => ?_⟩
  · have hv := valid_of h
    exact ⟨hv.k.1, hv.k.2, hv.n.1, hv.n.2⟩
  · exact gcode_of ⟨⟨h.1, h.2.1⟩, ⟨h.2.2.1, h.2.2.2⟩, ⟨Int.le_refl _, by show (0 : Int) < n; omega⟩, Nat.zero_le _, fun r hr => (by cases hr), fun r hr => (by cases hr), fun r hr => (by cases hr)⟩
theorem gcode0_may {k n : Int} {m : Nat} : mayB k n m = true ↔ gcode (g0 k n) = 0 ∧ m ≤ 40 := by
  unfold mayB
  rw [decide_eq_true_eq, gcode0]
  omega
theorem TR.len {g : Grammar} {d : Deed} {t : Tl} (h : TR g d t) : t.st.length ≤ 1000000 := by
  obtain ⟨h, _⟩ := h
  generalize t.c = c, t.n = n, t.st = st at h
  cases h with
  | pick h e r _ hr hl hT =>
    have hc := (cc_ok e).1
    have hw := hc.w
    have := tk_steps hc.p hT
    simp only [List.length_singleton, stA, Nat.one_ne_zero, if_false, Nat.sub_self, List.getD_cons_zero] at this
    omega
  | _ => simp
theorem sam_det {g : Grammar} {d : Deed} {a b : Tl} (h : TR g d a) (h' : TR g d b) : samT a b = true := by
  obtain ⟨e1, e2, e3⟩ := h.1.det h'.1
  exact decide_eq_true ⟨e1, e2, e3⟩
theorem dee_snoc {l : List Deed} {d : Deed} : tbl deeD l ++ [[D.v (.int .i64 d.kind), D.v (.int .i64 d.rule.left), D.sl 1 (i64s d.rule.right), D.sl 1 (i64s d.word), D.v (.int .i64 d.n), D.sl 1 (i64s d.steps)]] = tbl deeD (l ++ [d]) := by rw [tbl_app]; rfl
theorem tls_snoc {l : List Tl} {t : Tl} : tbl tlS l ++ [[D.v (.int .i64 t.c), D.v (.int .i64 t.n), D.sl 1 (i64s t.st)]] = tbl tlS (l ++ [t]) := by rw [tbl_app]; rfl
def vto := And.intro vpl <| And.intro @dee_snoc <| And.intro @tls_snoc @tlS_eq
theorem TRs.add {g : Grammar} {ds : List Deed} {l : List Tl} {d : Deed} {t : Tl} (h : TRs g ds l) (ht : TR (nxs g ds) d t) : TRs g (ds ++ [d]) (l ++ [t]) := by
  have hl := h.1
  refine ⟨by simp [hl], fun j hj => ?_⟩
  have hj' : j < ds.length + 1 := by simpa [hl] using hj
  by_cases e : j = ds.length
  · have e1 : (ds ++ [d]).getD j default = d := by simp [List.getD_eq_getElem?_getD, e]
    have e2 : (l ++ [t]).getD j default = t := by simp [List.getD_eq_getElem?_getD, e, ← hl]
    rw [e1, e2, List.take_append_of_le_length (by omega), List.take_of_length_le (by omega)]; exact ht
  · have hji : j < ds.length := by omega
    have h3 := h.2 j (by omega)
    have e1 : (ds ++ [d]).getD j default = ds.getD j default := by simp [List.getD_eq_getElem?_getD, List.getElem?_append_left hji]
    have e2 : (l ++ [t]).getD j default = l.getD j default := by simp [List.getD_eq_getElem?_getD, List.getElem?_append_left (show j < l.length by omega)]
    rw [e1, e2, List.take_append_of_le_length (by omega)]; exact h3
end Go.Proofs.Ytjekkbpdgnohcaa

namespace Go.Proofs.Ytjekkbpdgnohcaa
open Go.Dm
set_option linter.unusedSimpArgs false
set_option linter.unnecessarySimpa false
set_option linter.unusedVariables false
set_option linter.defProp false
theorem CallVC.mkl {P : Program} {f : FuncId} {views views' raws : List D} {s : S} {d : Option Nat} {K : S → Prop} {R : D → Prop} (hl : Les views views') (h : Dm.Spec P f views' R) (hk : ∀ r, R r → K (s.put d r)) : CallV P f views false raws s d K :=
  fun hv ho => .pure raws s views' R (by rw [← hv]; exact hl) h fun r hr => ⟨by rw [← ho]; simp, hk r hr⟩
theorem Le_tail {sz : Nat} {a b b' : List (List D)} (hl : b.length = b'.length) (h1 : ∀ i, i < b.length → (b'.getD i []).length = (b.getD i []).length) (h : ∀ i j, i < b.length → j < (b.getD i []).length → ((b.getD i []).getD j .junk).Le ((b'.getD i []).getD j .junk)) : (D.sl sz (a ++ b)).Le (.sl sz (a ++ b')) := by
  have lo : ∀ (c : List (List D)) {i : Nat}, i < a.length → (a ++ c).getD i [] = a.getD i [] := fun c {i} hi => by simp only [List.getD_eq_getElem?_getD]; rw [List.getElem?_append_left hi]
  have hi' : ∀ (c : List (List D)) {i : Nat}, ¬ i < a.length → (a ++ c).getD i [] = c.getD (i - a.length) [] := fun c {i} hi => by simp only [List.getD_eq_getElem?_getD]; rw [List.getElem?_append_right (by omega)]
  refine Le_slN (by simp [hl]) (fun i hi => ?_) (fun i j hi hj => ?_)
  · by_cases e : i < a.length
    · rw [lo _ e, lo _ e]
    · rw [hi' _ e, hi' _ e]; exact h1 _ (by simp at hi; omega)
  · by_cases e : i < a.length
    · rw [lo _ e, lo _ e]; exact Le_refl _
    · rw [hi' _ e] at hj
      rw [hi' _ e, hi' _ e]; exact h _ _ (by simp at hi; omega) hj
def ruD (r : Rule) : Deed := ⟨1, r, [], 0, []⟩
theorem TRs.at {g : Grammar} {ds es : List Deed} {l : List Tl} {i : Nat} (h : TRs g (ds ++ es) l) (hi : i < es.length) : TR (nxs (nxs g ds) (es.take i)) (es.getD i default) (l.getD (ds.length + i) default) := by
  have hl := h.1
  rw [List.length_append] at hl
  have h2 := h.2 (ds.length + i) (by omega)
  have e1 : (ds ++ es).take (ds.length + i) = ds ++ es.take i := by rw [List.take_append]; simp [List.take_of_length_le]
  have e2 : (ds ++ es).getD (ds.length + i) default = es.getD i default := by
    simp only [List.getD_eq_getElem?_getD]; rw [List.getElem?_append_right (by omega)]; simp
  rw [e1, e2, nxs_app] at h2
  exact h2
theorem TO_rule {g : Grammar} {r : Rule} {t : Tl} (h : TR g (ruD r) t) : t.c = rcode g r := by
  obtain ⟨h, _⟩ := h
  exact (h.det (.rule (d := ruD r) rfl)).1
end Go.Proofs.Ytjekkbpdgnohcaa

namespace Go.Proofs.Ytjekkbpdgnohcaa
open Go.Dm
set_option linter.unusedSimpArgs false
set_option linter.unnecessarySimpa false
set_option linter.unusedVariables false
set_option linter.defProp false
def asD (w : List Int) : Deed := ⟨3, ⟨0, []⟩, w, 0, []⟩
def moreR (ds : List Deed) (w : List Int) (r : Rule) : List (List D) := tbl deeD ds ++ [[iv .i64 3, iv .i64 0, .nl, .sl 1 (i64s w), iv .i64 0, .nl], [iv .i64 1, iv .i64 r.left, .sl 1 (i64s r.right), .nl, iv .i64 0, .nl], [iv .i64 3, iv .i64 0, .nl, .sl 1 (i64s w), iv .i64 0, .nl]]
theorem moreR_le {ds : List Deed} {w : List Int} {r : Rule} : (D.sl 6 (moreR ds w r)).Le (.sl 6 (tbl deeD (ds ++ [asD w, ruD r, asD w]))) := by
  have e : tbl deeD (ds ++ [asD w, ruD r, asD w]) = tbl deeD ds ++ [deeD (asD w), deeD (ruD r), deeD (asD w)] := by simp [tbl]
  rw [e]
  refine Le_tail rfl (fun i hi => ?_) (fun i j hi hj => ?_)
  · match i, hi with
    | 0, _ => rfl
    | 1, _ => rfl
    | 2, _ => rfl
  · match i, hi with
    | 0, _ =>
      match j, hj with
      | 0, _ => exact Le_refl _
      | 1, _ => exact Le_refl _
      | 2, _ => exact Le_nl 1
      | 3, _ => exact Le_refl _
      | 4, _ => exact Le_refl _
      | 5, _ => exact Le_nl 1
    | 1, _ =>
      match j, hj with
      | 0, _ => exact Le_refl _
      | 1, _ => exact Le_refl _
      | 2, _ => exact Le_refl _
      | 3, _ => exact Le_nl 1
      | 4, _ => exact Le_refl _
      | 5, _ => exact Le_nl 1
    | 2, _ =>
      match j, hj with
      | 0, _ => exact Le_refl _
      | 1, _ => exact Le_refl _
      | 2, _ => exact Le_nl 1
      | 3, _ => exact Le_refl _
      | 4, _ => exact Le_refl _
      | 5, _ => exact Le_nl 1
theorem more_fold {ds : List Deed} {w : List Int} {r : Rule} : tbl deeD ds ++ [[D.v (.int .i64 3), D.v (.int .i64 0), D.nl, D.sl 1 (i64s w), D.v (.int .i64 0), D.nl], [D.v (.int .i64 1), D.v (.int .i64 r.left), D.sl 1 (i64s r.right), D.nl, D.v (.int .i64 0), D.nl], [D.v (.int .i64 3), D.v (.int .i64 0), D.nl, D.sl 1 (i64s w), D.v (.int .i64 0), D.nl]] = moreR ds w r := (rfl)
theorem moreR_len {ds : List Deed} {w : List Int} {r : Rule} : (moreR ds w r).length = ds.length + 3 := by simp [moreR, tbl]
theorem more_view {ds : List Deed} {w : List Int} {r : Rule} : viewO (some ⟨6, moreR ds w r, true, false, .arr⟩) 6 0 (ds.length + 3) = D.sl 6 (moreR ds w r) := viewO_all moreR_len.symm
def vtm := And.intro vto <| And.intro @more_fold @more_view
theorem more_law {G : Grammar} {r : Rule} {w : List Int} {x y : Tl} (hv : VG G) (hr : rcode G r = 0) (hx : TR G (asD w) x) (hy : TR (addR G r) (asD w) y) : (x.c ≠ 0 ∧ y.c = x.c) ∨ (x.c = 0 ∧ (y.c = 1 ∨ (y.c = 0 ∧ x.n ≤ y.n))) := by
  obtain ⟨x1, x2, _⟩ := hx.1.det (.many (d := asD w) rfl)
  obtain ⟨y1, y2, _⟩ := hy.1.det (.many (d := asD w) rfl)
  have e1 := hv.tcode w
  have e2 : tcode (addR G r) w = wcode G.k w := (rcode_ok hr).tcode w
  have hm := @trN_mono G r w
  have hw : (asD w).word = w := rfl
  rw [hw] at x1 x2 y1 y2
  unfold trC at x1 x2 y1 y2
  rw [e1] at x1 x2
  rw [e2] at y1 y2
  rw [x1, x2, y1, y2]
  by_cases h : wcode G.k w = 0
  · simp only [if_pos h]
    by_cases hb : 1099511627776 < trN G w
    · have hb2 : 1099511627776 < trN (addR G r) w := by omega
      simp only [if_pos hb, if_pos hb2]
      left; exact ⟨by decide, trivial⟩
    · simp only [if_neg hb]
      right
      refine ⟨trivial, ?_⟩
      by_cases hb2 : 1099511627776 < trN (addR G r) w
      · simp only [if_pos hb2]; left; trivial
      · simp only [if_neg hb2]; right; exact ⟨trivial, by simp; omega⟩
  · simp only [if_neg h]
    left; exact ⟨h, trivial⟩
set_option maxRecDepth 10000 in
set_option maxHeartbeats 4000000 in
theorem topMore_spec (k : Int) (hk : ok64 k) (n : Int) (hn : ok64 n) (ds : List Deed) (hs : okDs ds) (w : List Int) (hw : okL ok64 w) (r : Rule) (hr : okR r) : Dm.Spec Try.prog 5 [iv .i64 k, iv .i64 n, .sl 6 (tbl deeD ds), .sl 1 (i64s w), .ag (rulD r)] (· = .v (.bool true)) := by
  refine spec_of_vc mixed Try.func5 c5 (by rw [show Try.f5.ntmps = _ from Try.ntmps5]; simp) ?_
  unfold m5 r5
  have hdl := maxLen_le hs.1.1
  have hby := hs.2
  have h3 : ds.length + 3 ≤ maxLen := by have : maxLen = 9223372036854775807 := rfl; omega
  have hru : okD (ruD r) := ⟨⟨⟨by show (-9223372036854775808 : Int) ≤ 1; decide, by show (1 : Int) ≤ _; decide⟩, hr.1, ⟨Nat.zero_le _, fun x hx => (by cases hx)⟩, ⟨by show (-9223372036854775808 : Int) ≤ 0; decide, by show (0 : Int) ≤ _; decide⟩, ⟨Nat.zero_le _, fun x hx => (by cases hx)⟩⟩, hr.2⟩
  have has : okD (asD w) := ⟨⟨⟨by show (-9223372036854775808 : Int) ≤ 3; decide, by show (3 : Int) ≤ _; decide⟩, ⟨⟨by show (-9223372036854775808 : Int) ≤ 0; decide, by show (0 : Int) ≤ _; decide⟩, ⟨Nat.zero_le _, fun x hx => (by cases hx)⟩⟩, hw, ⟨by show (-9223372036854775808 : Int) ≤ 0; decide, by show (0 : Int) ≤ _; decide⟩, ⟨Nat.zero_le _, fun x hx => (by cases hx)⟩⟩, by show ([] : List Int).length * 8 ≤ _; decide⟩
  have hs2 : okL okD (ds ++ [asD w, ruD r, asD w]) := ⟨by simp; omega, fun x hx => by
    rcases List.mem_append.1 hx with hx | hx
    · exact hs.1.2 x hx
    · simp only [List.mem_cons, List.not_mem_nil, or_false] at hx
      rcases hx with rfl | rfl | rfl
      · exact has
      · exact hru
      · exact has⟩
  have hl2 : (ds ++ [asD w, ruD r, asD w]).length = ds.length + 3 := by simp
  have hp2 := play_spec k n hk hn _ hs2
  have hm := may_spec k n (ds ++ [asD w, ruD r, asD w]) (maxLen_le hs2.1)
  have hLe : Les [iv .i64 k, iv .i64 n, D.sl 6 (moreR ds w r)] [iv .i64 k, iv .i64 n, .sl 6 (tbl deeD (ds ++ [asD w, ruD r, asD w]))] := .cons (Le_refl _) (.cons (Le_refl _) (.cons moreR_le .nil))
  repeat' first | ((first | refine Br.dec ?_ ?_ | refine Br.eqi ?_ ?_) <;> intro h <;> try (exfalso; omega)) | (simp (disch := first | omega | (simp only [vlen]; first | done | omega)) only [vtm, ↓vAq, vBq, ↓reduceIte, Nat.reduceBEq, Nat.reduceEqDiff, Nat.reduceLT, Nat.reduceLeDiff, Nat.reduceAdd, Nat.reduceMul, Nat.reduceSub, reduceCtorEq, Int.reduceToNat]) | (refine Br.mk ?_ ?_ <;> intro h) | (refine BrN.mk (fun h => ?_) ?_) | (refine AltVC.mk ?_ ?_)
  refine DrawVC.ct (X := Unit) (fun _ => [(12, .sl 6 (moreR ds w r))]) (fun _ => [(0, ⟨2, [rulD r], true, false, .fix⟩), (1, ⟨6, [[iv .i64 3, iv .i64 0, .nl, .sl 1 (i64s w), iv .i64 0, .nl]], true, false, .fix⟩)]) (fun _ => True) 4 (by simp (disch := first | omega | (simp only [vlen]; first | done | omega)) only [vtm, ↓vAq, vBq, ↓reduceIte, Nat.reduceBEq, Nat.reduceEqDiff, Nat.reduceLT, Nat.reduceLeDiff, Nat.reduceAdd, Nat.reduceMul, Nat.reduceSub, reduceCtorEq, Int.reduceToNat]) ?_ ?_
  · repeat' first | ((first | refine Br.dec ?_ ?_ | refine Br.eqi ?_ ?_) <;> intro h <;> try (exfalso; omega)) | (simp (disch := first | omega | (simp only [vlen]; first | done | omega)) only [vtm, ↓vAq, vBq, ↓reduceIte, Nat.reduceBEq, Nat.reduceEqDiff, Nat.reduceLT, Nat.reduceLeDiff, Nat.reduceAdd, Nat.reduceMul, Nat.reduceSub, reduceCtorEq, Int.reduceToNat]) | (refine Br.mk ?_ ?_ <;> intro h) | (refine BrN.mk (fun h => ?_) ?_) | (refine AltVC.mk ?_ ?_)
    all_goals first
      | (refine cutK.frz 2 ?_
         (repeat' first | ((first | refine Br.dec ?_ ?_ | refine Br.eqi ?_ ?_) <;> intro h <;> try (exfalso; omega)) | (simp (disch := first | omega | (simp only [vlen]; first | done | omega)) only [vtm, ↓vAq, vBq, ↓reduceIte, Nat.reduceBEq, Nat.reduceEqDiff, Nat.reduceLT, Nat.reduceLeDiff, Nat.reduceAdd, Nat.reduceMul, Nat.reduceSub, reduceCtorEq, Int.reduceToNat]) | (refine Br.mk ?_ ?_ <;> intro h) | (refine BrN.mk (fun h => ?_) ?_) | (refine AltVC.mk ?_ ?_))
         refine cutK.mk () ?_ trivial ?_
         · (simp (disch := first | omega | (simp only [vlen]; first | done | omega)) only [vtm, ↓vAq, vBq, ↓reduceIte, Nat.reduceBEq, Nat.reduceEqDiff, Nat.reduceLT, Nat.reduceLeDiff, Nat.reduceAdd, Nat.reduceMul, Nat.reduceSub, reduceCtorEq, Int.reduceToNat])
         · ((simp (disch := first | omega | (simp only [vlen]; first | done | omega)) only [Fits_u, Fits_m, Fits_nil, List.length_append, vtm, ↓vAq, vBq, ↓reduceIte, Nat.reduceBEq, Nat.reduceEqDiff, Nat.reduceLT, Nat.reduceLeDiff, Nat.reduceAdd, Nat.reduceMul, Nat.reduceSub, reduceCtorEq, Int.reduceToNat] <;> (repeat' first | rfl | apply And.intro))))
      | (refine cutK.frz 3 ?_
         (repeat' first | ((first | refine Br.dec ?_ ?_ | refine Br.eqi ?_ ?_) <;> intro h <;> try (exfalso; omega)) | (simp (disch := first | omega | (simp only [vlen]; first | done | omega)) only [vtm, ↓vAq, vBq, ↓reduceIte, Nat.reduceBEq, Nat.reduceEqDiff, Nat.reduceLT, Nat.reduceLeDiff, Nat.reduceAdd, Nat.reduceMul, Nat.reduceSub, reduceCtorEq, Int.reduceToNat]) | (refine Br.mk ?_ ?_ <;> intro h) | (refine BrN.mk (fun h => ?_) ?_) | (refine AltVC.mk ?_ ?_))
         refine cutK.mk () ?_ trivial ?_
         · (simp (disch := first | omega | (simp only [vlen]; first | done | omega)) only [vtm, ↓vAq, vBq, ↓reduceIte, Nat.reduceBEq, Nat.reduceEqDiff, Nat.reduceLT, Nat.reduceLeDiff, Nat.reduceAdd, Nat.reduceMul, Nat.reduceSub, reduceCtorEq, Int.reduceToNat])
         · ((simp (disch := first | omega | (simp only [vlen]; first | done | omega)) only [Fits_u, Fits_m, Fits_nil, List.length_append, vtm, ↓vAq, vBq, ↓reduceIte, Nat.reduceBEq, Nat.reduceEqDiff, Nat.reduceLT, Nat.reduceLeDiff, Nat.reduceAdd, Nat.reduceMul, Nat.reduceSub, reduceCtorEq, Int.reduceToNat] <;> (repeat' first | rfl | apply And.intro))))
      | trace_state
  rintro ⟨⟩ _
  repeat' first | ((first | refine Br.dec ?_ ?_ | refine Br.eqi ?_ ?_) <;> intro h <;> try (exfalso; omega)) | (simp (disch := first | omega | (simp only [vlen]; first | done | omega)) only [vtm, ↓vAq, vBq, ↓reduceIte, Nat.reduceBEq, Nat.reduceEqDiff, Nat.reduceLT, Nat.reduceLeDiff, Nat.reduceAdd, Nat.reduceMul, Nat.reduceSub, reduceCtorEq, Int.reduceToNat]) | (refine Br.mk ?_ ?_ <;> intro h) | (refine BrN.mk (fun h => ?_) ?_) | (refine AltVC.mk ?_ ?_)
  by_cases hmay : mayB k n (ds ++ [asD w, ruD r, asD w]).length = true
  · obtain ⟨h0, h40⟩ := gcode0_may.1 hmay
    rw [hmay] at hm
    rw [hl2] at h40
    refine CallVC.mkl hLe hp2 ?_
    rintro _ (⟨h, rfl⟩ | ⟨_, h, rfl⟩ | ⟨_, _, lb, rfl, hTb⟩)
    · exact absurd h0 h
    · omega
    have hlb := hTb.1
    have hto := @moreR_len ds w r
    rw [hl2] at hlb
    have hvG := (VG0 h0).nxs ds
    have tb0 : TR (nxs (g0 k n) ds) (asD w) (lb.getD ds.length default) := hTb.at (i := 0) (by simp)
    have tb1 : TR (nxG (nxs (g0 k n) ds) (asD w)) (ruD r) (lb.getD (ds.length + 1) default) := hTb.at (i := 1) (by simp)
    have tb2 : TR (nxG (nxG (nxs (g0 k n) ds) (asD w)) (ruD r)) (asD w) (lb.getD (ds.length + 2) default) := hTb.at (i := 2) (by simp)
    have e1 : ((ds.length : Int) + 1).toNat = ds.length + 1 := by omega
    have e2 : ((ds.length : Int) + 2).toNat = ds.length + 2 := by omega
    generalize nxs (g0 k n) ds = G at *
    have en0 : nxG G (asD w) = G := by unfold nxG; rw [if_neg (by show ¬ (3 : Int) = 1; decide), if_neg (by show ¬ (3 : Int) = 2; decide)]
    rw [en0] at tb1 tb2
    have c0 := TO_rule tb1
    generalize hx : lb.getD ds.length default = x at *
    generalize hy : lb.getD (ds.length + 2) default = y at *
    repeat' first | ((first | refine Br.dec ?_ ?_ | refine Br.eqi ?_ ?_) <;> intro h <;> try (exfalso; omega)) | (simp (disch := first | omega | (simp only [vlen]; first | done | omega)) only [vtm, ↓vAq, vBq, ↓reduceIte, Nat.reduceBEq, Nat.reduceEqDiff, Nat.reduceLT, Nat.reduceLeDiff, Nat.reduceAdd, Nat.reduceMul, Nat.reduceSub, reduceCtorEq, Int.reduceToNat]) | (refine Br.mk ?_ ?_ <;> intro h) | (refine BrN.mk (fun h => ?_) ?_) | (refine AltVC.mk ?_ ?_)
    refine CallVC.les hLe hm ?_
    by_cases hrc : rcode G r = 0
    · have en1 : nxG G (ruD r) = addR G r := by unfold nxG; rw [if_pos (show (ruD r).kind = 1 from rfl), if_pos (show rcode G (ruD r).rule = 0 from hrc)]; rfl
      rw [en1] at tb2
      rw [hrc] at c0
      have hlaw := more_law hvG hrc tb0 tb2
      repeat' first | ((first | refine Br.dec ?_ ?_ | refine Br.eqi ?_ ?_) <;> intro h <;> try (exfalso; omega)) | (simp (disch := first | omega | (simp only [vlen]; first | done | omega)) only [hlb, hto, c0, e1, e2, hx, hy, vtm, ↓vAq, vBq, ↓reduceIte, Nat.reduceBEq, Nat.reduceEqDiff, Nat.reduceLT, Nat.reduceLeDiff, Nat.reduceAdd, Nat.reduceMul, Nat.reduceSub, reduceCtorEq, Int.reduceToNat]) | (refine Br.mk ?_ ?_ <;> intro h) | (refine BrN.mk (fun h => ?_) ?_) | (refine AltVC.mk ?_ ?_)
      all_goals first
        | exact fin_mk (vbEq rfl)
        | exact fin_mk (vbEq (decide_eq_true (by omega)))
        | (exfalso; omega)
        | trace_state
    · have en1 : nxG G (ruD r) = G := by unfold nxG; rw [if_pos (show (ruD r).kind = 1 from rfl), if_neg (show ¬ rcode G (ruD r).rule = 0 from hrc)]
      rw [en1] at tb2
      have hsm := same_spec x y (Nat.le_trans tb0.len (by decide)) (Nat.le_trans tb2.len (by decide))
      rw [sam_det tb0 tb2] at hsm
      repeat' first | ((first | refine Br.dec ?_ ?_ | refine Br.eqi ?_ ?_) <;> intro h <;> try (exfalso; omega)) | (simp (disch := first | omega | (simp only [vlen]; first | done | omega)) only [hlb, hto, c0, e1, e2, hx, hy, vtm, ↓vAq, vBq, ↓reduceIte, Nat.reduceBEq, Nat.reduceEqDiff, Nat.reduceLT, Nat.reduceLeDiff, Nat.reduceAdd, Nat.reduceMul, Nat.reduceSub, reduceCtorEq, Int.reduceToNat]) | (refine Br.mk ?_ ?_ <;> intro h) | (refine BrN.mk (fun h => ?_) ?_) | (refine AltVC.mk ?_ ?_)
      refine CallVC.eq hsm ?_
      repeat' first | ((first | refine Br.dec ?_ ?_ | refine Br.eqi ?_ ?_) <;> intro h <;> try (exfalso; omega)) | (simp (disch := first | omega | (simp only [vlen]; first | done | omega)) only [hlb, hto, c0, e1, e2, hx, hy, vtm, ↓vAq, vBq, ↓reduceIte, Nat.reduceBEq, Nat.reduceEqDiff, Nat.reduceLT, Nat.reduceLeDiff, Nat.reduceAdd, Nat.reduceMul, Nat.reduceSub, reduceCtorEq, Int.reduceToNat]) | (refine Br.mk ?_ ?_ <;> intro h) | (refine BrN.mk (fun h => ?_) ?_) | (refine AltVC.mk ?_ ?_)
      all_goals first | exact fin_mk (vbEq rfl) | trace_state
  · have hmf : mayB k n (ds ++ [asD w, ruD r, asD w]).length = false := by simpa using hmay
    rw [hmf] at hm
    refine CallVC.mkl hLe hp2 ?_
    rintro _ (⟨h', rfl⟩ | ⟨_, h', rfl⟩ | ⟨h', h1', lb, rfl, hTb⟩)
    all_goals first
      | (exfalso; exact absurd (gcode0_may.2 ⟨h', h1'⟩) hmay)
      | (repeat' first | ((first | refine Br.dec ?_ ?_ | refine Br.eqi ?_ ?_) <;> intro h <;> try (exfalso; omega)) | (simp (disch := first | omega | (simp only [vlen]; first | done | omega)) only [vtm, ↓vAq, vBq, ↓reduceIte, Nat.reduceBEq, Nat.reduceEqDiff, Nat.reduceLT, Nat.reduceLeDiff, Nat.reduceAdd, Nat.reduceMul, Nat.reduceSub, reduceCtorEq, Int.reduceToNat]) | (refine Br.mk ?_ ?_ <;> intro h) | (refine BrN.mk (fun h => ?_) ?_) | (refine AltVC.mk ?_ ?_)
         refine CallVC.les hLe hm ?_
         (repeat' first | ((first | refine Br.dec ?_ ?_ | refine Br.eqi ?_ ?_) <;> intro h <;> try (exfalso; omega)) | (simp (disch := first | omega | (simp only [vlen]; first | done | omega)) only [vtm, ↓vAq, vBq, ↓reduceIte, Nat.reduceBEq, Nat.reduceEqDiff, Nat.reduceLT, Nat.reduceLeDiff, Nat.reduceAdd, Nat.reduceMul, Nat.reduceSub, reduceCtorEq, Int.reduceToNat]) | (refine Br.mk ?_ ?_ <;> intro h) | (refine BrN.mk (fun h => ?_) ?_) | (refine AltVC.mk ?_ ?_))
         all_goals exact fin_mk (vbEq (by first | (simpa using h') | simp)))
      | trace_state
end Go.Proofs.Ytjekkbpdgnohcaa
