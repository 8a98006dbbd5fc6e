/-
 Texts of this claim, one behind another.
-/
import Derived.Test.YtdcdldfleeilnaaAcW
import Derived.Test.YtdcdldfleeilnaaMg13
import Derived.Test.YtdcdldfleeilnaaMg11
namespace Go.Proofs.Ytdcdldfleeilnaa
open Go.Dm
set_option linter.unusedSimpArgs false
set_option linter.unnecessarySimpa false
set_option linter.unusedVariables false
set_option linter.defProp false
theorem take_byte {w : List UInt8} {k : Nat} (h : k < w.length) : w.take (k + 1) = w.take k ++ [w.getD k 0] := take_succ_getD h 0
theorem natI_snoc {l : List Nat} {i : Nat} : natI l ++ [(i : Int)] = natI (l ++ [i]) := by simp [natI]
theorem ap_get {l m : List (List D)} {i : Nat} {d : List D} (h : i < l.length) : (l ++ m).getD i d = l.getD i d := getD_app_l h
theorem ap_set {l m : List (List D)} {i : Nat} {x : List D} (h : i < l.length) : (l ++ m).set i x = l.set i x ++ m := List.set_append_left _ _ h
theorem ap_getn {l : List (List D)} {n : Nat} {x d : List D} (h : n = l.length) : (l ++ [x]).getD n d = x := by subst h; exact getD_app_e
theorem ap_setn {l : List (List D)} {n : Nat} {x y : List D} (h : n = l.length) : (l ++ [x]).set n y = l ++ [y] := by subst h; rw [List.set_append_right _ _ (Nat.le_refl _)]; simp
theorem nd_app2 {T : List Nd} {lo : Nat} : tbl ndD T ++ [[.omp (.map [.u8] false false) 2 [], D.v (.int .i64 0), D.v (.int .i64 ((lo : Int) + 1)), .own false 1 []]] = tbl ndD (T ++ [⟨[], 0, lo + 1, []⟩]) := by rw [tbl_app]; rfl
theorem kill_app {l m : List (List D)} {τ : Nat} : List.map (fun e => List.map (D.kill τ) e) (l ++ m) = List.map (fun e => List.map (D.kill τ) e) l ++ List.map (fun e => List.map (D.kill τ) e) m := List.map_append
theorem natI_take1 {l : List Nat} {i : Nat} : (natI (l ++ [i])).take (l.length + 1) = natI (l ++ [i]) := List.take_of_length_le (by simp [natI])
def vav := And.intro vaw <| And.intro @natI_take1 <| And.intro @ap_get <| And.intro @ap_set <| And.intro @ap_getn <| And.intro @ap_setn <| And.intro @nd_app2 <| And.intro @kill_app @natI_snoc
def BdR (W : List (List UInt8)) (d : D) (o : List (Option Ob)) : Prop := ∃ Ss T, d = .ref 2 4 0 T.length ∧ o = [none, none, some ⟨4, tbl ndD T, true, true, .fix⟩] ∧ T.length ≤ 100000 ∧ AC W Ss T
set_option maxRecDepth 10000 in
set_option maxHeartbeats 4000000 in
theorem build_spec (W : List (List UInt8)) (hW : W.length ≤ 8) (hWl : ∀ w, w ∈ W → w.length ≤ 1000) : Dm.SpecH Try.prog 27 [.sl 1 (rows u8s W)] [] (BdR W) := by
  refine specH_of_vc mixed Try.func27 c27 (by rw [show Try.f27.ntmps = _ from Try.ntmps27]; simp) ?_
  unfold m27 r27
  repeat' first | ((first | refine Br.dec ?_ ?_ | refine Br.eqi ?_ ?_) <;> intro h <;> try (exfalso; omega)) | (simp (disch := first | omega | (simp only [vlen]; first | done | omega)) only [vav, ↓vAq, vBq, ↓reduceIte, Nat.reduceBEq, Nat.reduceEqDiff, Nat.reduceLT, Nat.reduceLeDiff, Nat.reduceAdd, Nat.reduceMul, Nat.reduceSub, reduceCtorEq, Int.reduceToNat]) | (refine Br.mk ?_ ?_ <;> intro h) | (refine BrN.mk (fun h => ?_) ?_) | (refine AltVC.mk ?_ ?_)
  refine LoopVC.nlo 2 0 3 1 ?_
  repeat' first | ((first | refine Br.dec ?_ ?_ | refine Br.eqi ?_ ?_) <;> intro h <;> try (exfalso; omega)) | (simp (disch := first | omega | (simp only [vlen]; first | done | omega)) only [vav, ↓vAq, vBq, ↓reduceIte, Nat.reduceBEq, Nat.reduceEqDiff, Nat.reduceLT, Nat.reduceLeDiff, Nat.reduceAdd, Nat.reduceMul, Nat.reduceSub, reduceCtorEq, Int.reduceToNat]) | (refine Br.mk ?_ ?_ <;> intro h) | (refine BrN.mk (fun h => ?_) ?_) | (refine AltVC.mk ?_ ?_)
  refine LoopVC.fold 1 2 0 0 true ?_
  repeat' first | ((first | refine Br.dec ?_ ?_ | refine Br.eqi ?_ ?_) <;> intro h <;> try (exfalso; omega)) | (simp (disch := first | omega | (simp only [vlen]; first | done | omega)) only [vav, ↓vAq, vBq, ↓reduceIte, Nat.reduceBEq, Nat.reduceEqDiff, Nat.reduceLT, Nat.reduceLeDiff, Nat.reduceAdd, Nat.reduceMul, Nat.reduceSub, reduceCtorEq, Int.reduceToNat]) | (refine Br.mk ?_ ?_ <;> intro h) | (refine BrN.mk (fun h => ?_) ?_) | (refine AltVC.mk ?_ ?_)
  have e0 : [[D.omp acK 2 [], D.v (.int .i64 0), D.v (.int .i64 0), .own false 1 []]] = tbl ndD [⟨[], 0, 0, []⟩] := rfl
  refine LoopVC.mk (X := Nat × List (List UInt8) × List Nd) (fun x => [(3, .ref 2 4 0 x.2.2.length), (16, iv .i64 x.1)]) (fun x => [(2, ⟨4, tbl ndD x.2.2, true, true, .arr⟩)]) (fun x => W.length - x.1) (fun x => x.1 ≤ W.length ∧ BI W x.2.1 x.2.2 x.1 [] ∧ x.2.2.length ≤ 1 + x.1 * 1000) (0, [[]], [⟨[], 0, 0, []⟩]) ⟨Nat.zero_le _, .init, by show 1 ≤ 1 + 0 * 1000; omega⟩ ?_ ?_
  · (simp (disch := first | omega | (simp only [vlen]; first | done | omega)) only [Fits_u, Fits_m, Fits_nil, List.length_append, e0, vav, ↓vAq, vBq, ↓reduceIte, Nat.reduceBEq, Nat.reduceEqDiff, Nat.reduceLT, Nat.reduceLeDiff, Nat.reduceAdd, Nat.reduceMul, Nat.reduceSub, reduceCtorEq, Int.reduceToNat] <;> (repeat' first | rfl | apply And.intro))
    all_goals first | rfl | trace_state
  · rintro ⟨i, Ss, T⟩ ⟨hi, hB, hTl⟩
    simp only at hi hB hTl ⊢
    by_cases hil : i < W.length
    · obtain ⟨w, hw⟩ : ∃ w, W.getD i default = w := ⟨_, rfl⟩
      have hw' : W.getD i [] = w := hw
      have hwl := hWl w (by rw [← hw]; exact getD_mem' hil)
      repeat' first | ((first | refine Br.dec ?_ ?_ | refine Br.eqi ?_ ?_) <;> intro h <;> try (exfalso; omega)) | (simp (disch := first | omega | (simp only [vlen]; first | done | omega)) only [hw, vav, ↓vAq, vBq, ↓reduceIte, Nat.reduceBEq, Nat.reduceEqDiff, Nat.reduceLT, Nat.reduceLeDiff, Nat.reduceAdd, Nat.reduceMul, Nat.reduceSub, reduceCtorEq, Int.reduceToNat]) | (refine Br.mk ?_ ?_ <;> intro h) | (refine BrN.mk (fun h => ?_) ?_) | (refine AltVC.mk ?_ ?_)
      refine LoopVC.mk (X := Nat × Nat × List (List UInt8) × List Nd) (fun x => [(3, .ref 2 4 0 x.2.2.2.length), (6, iv .i64 x.2.1), (23, iv .i64 x.1)]) (fun x => [(2, ⟨4, tbl ndD x.2.2.2, true, true, .arr⟩)]) (fun x => w.length - x.1) (fun x => x.1 ≤ w.length ∧ BI W x.2.2.1 x.2.2.2 i (w.take x.1) ∧ x.2.1 < x.2.2.2.length ∧ x.2.2.1.getD x.2.1 [] = w.take x.1 ∧ x.2.2.2.length ≤ 1 + i * 1000 + x.1) (0, 0, Ss, T) ⟨Nat.zero_le _, hB, by show 0 < T.length; rw [hB.tri.len]; exact hB.tri.pos, hB.tri.zero, by show T.length ≤ 1 + i * 1000 + 0; omega⟩ ?_ ?_
      · (simp (disch := first | omega | (simp only [vlen]; first | done | omega)) only [Fits_u, Fits_m, Fits_nil, List.length_append, vav, ↓vAq, vBq, ↓reduceIte, Nat.reduceBEq, Nat.reduceEqDiff, Nat.reduceLT, Nat.reduceLeDiff, Nat.reduceAdd, Nat.reduceMul, Nat.reduceSub, reduceCtorEq, Int.reduceToNat] <;> (repeat' first | rfl | apply And.intro))
        all_goals first | rfl | trace_state
      · rintro ⟨k, a, Ss, T⟩ ⟨hk, hB, hal, hau, hTl⟩
        simp only at hk hB hal hau hTl ⊢
        have hlo := hB.tri.lo a hal
        have hSl : (Ss.getD a []).length ≤ 1000 := by rw [hau, List.length_take]; omega
        by_cases hkl : k < w.length
        · obtain ⟨c, hc⟩ : ∃ c, w.getD k 0 = c := ⟨_, rfl⟩
          have htk := take_byte hkl
          rw [hc] at htk
          have hnx := hB.tri.nx a hal c
          have hc8 : c.toNat < 256 := c.toNat_lt
          repeat' first | ((first | refine Br.dec ?_ ?_ | refine Br.eqi ?_ ?_) <;> intro h <;> try (exfalso; omega)) | (simp (disch := first | omega | (simp only [vlen]; first | done | omega)) only [hw, hc, vav, ↓vAq, vBq, ↓reduceIte, Nat.reduceBEq, Nat.reduceEqDiff, Nat.reduceLT, Nat.reduceLeDiff, Nat.reduceAdd, Nat.reduceMul, Nat.reduceSub, reduceCtorEq, Int.reduceToNat]) | (refine Br.mk ?_ ?_ <;> intro h) | (refine BrN.mk (fun h => ?_) ?_) | (refine AltVC.mk ?_ ?_)
          refine BrK.mk (fun r hr he => ?_) (fun hno => ?_)
          · obtain ⟨b, hb, hRr⟩ := ac_in hr he
            obtain ⟨b1, b2⟩ := (hnx b).1 hb
            rw [hau] at b2
            have hB2 := hB.found (c := c) (by rw [← b2]; exact str_mem (by rw [← hB.tri.len]; exact b1))
            rw [← htk] at hB2 b2
            repeat' first | ((first | refine Br.dec ?_ ?_ | refine Br.eqi ?_ ?_) <;> intro h <;> try (exfalso; omega)) | (simp (disch := first | omega | (simp only [vlen]; first | done | omega)) only [hRr, vav, ↓vAq, vBq, ↓reduceIte, Nat.reduceBEq, Nat.reduceEqDiff, Nat.reduceLT, Nat.reduceLeDiff, Nat.reduceAdd, Nat.reduceMul, Nat.reduceSub, reduceCtorEq, Int.reduceToNat]) | (refine Br.mk ?_ ?_ <;> intro h) | (refine BrN.mk (fun h => ?_) ?_) | (refine AltVC.mk ?_ ?_)
            refine loopK.fold 3 2 a 0 true ?_
            repeat' first | ((first | refine Br.dec ?_ ?_ | refine Br.eqi ?_ ?_) <;> intro h <;> try (exfalso; omega)) | (simp (disch := first | omega | (simp only [vlen]; first | done | omega)) only [vav, ↓vAq, vBq, ↓reduceIte, Nat.reduceBEq, Nat.reduceEqDiff, Nat.reduceLT, Nat.reduceLeDiff, Nat.reduceAdd, Nat.reduceMul, Nat.reduceSub, reduceCtorEq, Int.reduceToNat]) | (refine Br.mk ?_ ?_ <;> intro h) | (refine BrN.mk (fun h => ?_) ?_) | (refine AltVC.mk ?_ ?_)
            refine loopK.mk (k + 1, b, Ss, T) (by simp (disch := first | omega | (simp only [vlen]; first | done | omega)) only [vav, ↓vAq, vBq, ↓reduceIte, Nat.reduceBEq, Nat.reduceEqDiff, Nat.reduceLT, Nat.reduceLeDiff, Nat.reduceAdd, Nat.reduceMul, Nat.reduceSub, reduceCtorEq, Int.reduceToNat]) ⟨by show k + 1 ≤ w.length; omega, hB2, b1, b2, by show T.length ≤ 1 + i * 1000 + (k + 1); omega⟩ (by show w.length - (k + 1) < w.length - k; omega) ?_
            (simp (disch := first | omega | (simp only [vlen]; first | done | omega)) only [Fits_u, Fits_m, Fits_nil, List.length_append, vav, ↓vAq, vBq, ↓reduceIte, Nat.reduceBEq, Nat.reduceEqDiff, Nat.reduceLT, Nat.reduceLeDiff, Nat.reduceAdd, Nat.reduceMul, Nat.reduceSub, reduceCtorEq, Int.reduceToNat] <;> (repeat' first | rfl | apply And.intro))
            all_goals first | rfl | trace_state
          · have hno2 := ac_out hno
            have hnm : w.take k ++ [c] ∉ Ss := fun hm => by
              obtain ⟨b, b1, b2⟩ := mem_str hm
              exact hno2 ⟨b, (hnx b).2 ⟨by rw [hB.tri.len]; exact b1, by rw [hau]; exact b2⟩⟩
            have hB2 := hB.add hnm hal hau
            rw [← htk] at hB2
            repeat' first | ((first | refine Br.dec ?_ ?_ | refine Br.eqi ?_ ?_) <;> intro h <;> try (exfalso; omega)) | (simp (disch := first | omega | (simp only [vlen]; first | done | omega)) only [vav, ↓vAq, vBq, ↓reduceIte, Nat.reduceBEq, Nat.reduceEqDiff, Nat.reduceLT, Nat.reduceLeDiff, Nat.reduceAdd, Nat.reduceMul, Nat.reduceSub, reduceCtorEq, Int.reduceToNat]) | (refine Br.mk ?_ ?_ <;> intro h) | (refine BrN.mk (fun h => ?_) ?_) | (refine AltVC.mk ?_ ?_)
            refine BrK.mk (fun r hr he => ?_) (fun _ => ?_)
            · obtain ⟨b, hb, _⟩ := ac_in hr he
              exact absurd ⟨b, hb⟩ hno2
            repeat' first | ((first | refine Br.dec ?_ ?_ | refine Br.eqi ?_ ?_) <;> intro h <;> try (exfalso; omega)) | (simp (disch := first | omega | (simp only [vlen]; first | done | omega)) only [vav, ↓vAq, vBq, ↓reduceIte, Nat.reduceBEq, Nat.reduceEqDiff, Nat.reduceLT, Nat.reduceLeDiff, Nat.reduceAdd, Nat.reduceMul, Nat.reduceSub, reduceCtorEq, Int.reduceToNat]) | (refine Br.mk ?_ ?_ <;> intro h) | (refine BrN.mk (fun h => ?_) ?_) | (refine AltVC.mk ?_ ?_)
            refine loopK.fold 3 2 a 0 false ?_
            repeat' first | ((first | refine Br.dec ?_ ?_ | refine Br.eqi ?_ ?_) <;> intro h <;> try (exfalso; omega)) | (simp (disch := first | omega | (simp only [vlen]; first | done | omega)) only [vav, ↓vAq, vBq, ↓reduceIte, Nat.reduceBEq, Nat.reduceEqDiff, Nat.reduceLT, Nat.reduceLeDiff, Nat.reduceAdd, Nat.reduceMul, Nat.reduceSub, reduceCtorEq, Int.reduceToNat]) | (refine Br.mk ?_ ?_ <;> intro h) | (refine BrN.mk (fun h => ?_) ?_) | (refine AltVC.mk ?_ ?_)
            refine loopK.nlo 2 T.length 3 1 ?_
            repeat' first | ((first | refine Br.dec ?_ ?_ | refine Br.eqi ?_ ?_) <;> intro h <;> try (exfalso; omega)) | (simp (disch := first | omega | (simp only [vlen]; first | done | omega)) only [vav, ↓vAq, vBq, ↓reduceIte, Nat.reduceBEq, Nat.reduceEqDiff, Nat.reduceLT, Nat.reduceLeDiff, Nat.reduceAdd, Nat.reduceMul, Nat.reduceSub, reduceCtorEq, Int.reduceToNat]) | (refine Br.mk ?_ ?_ <;> intro h) | (refine BrN.mk (fun h => ?_) ?_) | (refine AltVC.mk ?_ ?_)
            refine loopK.fold 4 2 T.length 0 true ?_
            repeat' first | ((first | refine Br.dec ?_ ?_ | refine Br.eqi ?_ ?_) <;> intro h <;> try (exfalso; omega)) | (simp (disch := first | omega | (simp only [vlen]; first | done | omega)) only [vav, ↓vAq, vBq, ↓reduceIte, Nat.reduceBEq, Nat.reduceEqDiff, Nat.reduceLT, Nat.reduceLeDiff, Nat.reduceAdd, Nat.reduceMul, Nat.reduceSub, reduceCtorEq, Int.reduceToNat]) | (refine Br.mk ?_ ?_ <;> intro h) | (refine BrN.mk (fun h => ?_) ?_) | (refine AltVC.mk ?_ ?_)
            refine loopK.mk (k + 1, T.length, Ss ++ [w.take (k + 1)], addN T a c) (by simp (disch := first | omega | (simp only [vlen]; first | done | omega)) only [vav, ↓vAq, vBq, ↓reduceIte, Nat.reduceBEq, Nat.reduceEqDiff, Nat.reduceLT, Nat.reduceLeDiff, Nat.reduceAdd, Nat.reduceMul, Nat.reduceSub, reduceCtorEq, Int.reduceToNat]) ⟨by show k + 1 ≤ w.length; omega, hB2, by show T.length < (addN T a c).length; rw [addN_len]; omega, by rw [hB.tri.len]; exact getD_app_e, by show (addN T a c).length ≤ 1 + i * 1000 + (k + 1); rw [addN_len]; omega⟩ (by show w.length - (k + 1) < w.length - k; omega) ?_
            have hal2 := @addN_len T a c
            unfold addN at hal2 ⊢
            (simp (disch := first | omega | (simp only [vlen]; first | done | omega)) only [Fits_u, Fits_m, Fits_nil, List.length_append, hal2, vav, ↓vAq, vBq, ↓reduceIte, Nat.reduceBEq, Nat.reduceEqDiff, Nat.reduceLT, Nat.reduceLeDiff, Nat.reduceAdd, Nat.reduceMul, Nat.reduceSub, reduceCtorEq, Int.reduceToNat] <;> (repeat' first | rfl | apply And.intro))
            all_goals first | rfl | trace_state
        · have hke : k = w.length := by omega
          subst hke
          rw [List.take_length] at hB hau
          rw [← hw'] at hB hau
          have hB2 := hB.fin hal hau
          have hwsa : (T.getD a default).ws.length ≤ 8 := by rw [hB.wss a hal]; exact Nat.le_trans nums_len (by omega)
          repeat' first | ((first | refine Br.dec ?_ ?_ | refine Br.eqi ?_ ?_) <;> intro h <;> try (exfalso; omega)) | (simp (disch := first | omega | (simp only [vlen]; first | done | omega)) only [vav, ↓vAq, vBq, ↓reduceIte, Nat.reduceBEq, Nat.reduceEqDiff, Nat.reduceLT, Nat.reduceLeDiff, Nat.reduceAdd, Nat.reduceMul, Nat.reduceSub, reduceCtorEq, Int.reduceToNat]) | (refine Br.mk ?_ ?_ <;> intro h) | (refine BrN.mk (fun h => ?_) ?_) | (refine AltVC.mk ?_ ?_)
          refine loopK.fold 3 2 a 3 true ?_
          have hll : ((T.getD a default).ws ++ [i]).length = (T.getD a default).ws.length + 1 := by simp
          repeat' first | ((first | refine Br.dec ?_ ?_ | refine Br.eqi ?_ ?_) <;> intro h <;> try (exfalso; omega)) | (simp (disch := first | omega | (simp only [vlen]; first | done | omega)) only [hll, vav, ↓vAq, vBq, ↓reduceIte, Nat.reduceBEq, Nat.reduceEqDiff, Nat.reduceLT, Nat.reduceLeDiff, Nat.reduceAdd, Nat.reduceMul, Nat.reduceSub, reduceCtorEq, Int.reduceToNat]) | (refine Br.mk ?_ ?_ <;> intro h) | (refine BrN.mk (fun h => ?_) ?_) | (refine AltVC.mk ?_ ?_)
          refine loopK.mk (i + 1, Ss, endW T a i) (by simp (disch := first | omega | (simp only [vlen]; first | done | omega)) only [vav, ↓vAq, vBq, ↓reduceIte, Nat.reduceBEq, Nat.reduceEqDiff, Nat.reduceLT, Nat.reduceLeDiff, Nat.reduceAdd, Nat.reduceMul, Nat.reduceSub, reduceCtorEq, Int.reduceToNat]) ⟨by show i + 1 ≤ W.length; omega, hB2, by show (endW T a i).length ≤ _; rw [endW_len]; omega⟩ (by show W.length - (i + 1) < W.length - i; omega) ?_
          unfold endW
          (simp (disch := first | omega | (simp only [vlen]; first | done | omega)) only [Fits_u, Fits_m, Fits_nil, List.length_append, hll, vav, ↓vAq, vBq, ↓reduceIte, Nat.reduceBEq, Nat.reduceEqDiff, Nat.reduceLT, Nat.reduceLeDiff, Nat.reduceAdd, Nat.reduceMul, Nat.reduceSub, reduceCtorEq, Int.reduceToNat] <;> (repeat' first | rfl | apply And.intro))
          all_goals first | rfl | trace_state
    · have hie : i = W.length := by omega
      subst hie
      have hLi := link_spec W Ss T (.init (u := []) hB) (by omega) (by omega) (fun w hw => hWl w hw)
      repeat' first | ((first | refine Br.dec ?_ ?_ | refine Br.eqi ?_ ?_) <;> intro h <;> try (exfalso; omega)) | (simp (disch := first | omega | (simp only [vlen]; first | done | omega)) only [vav, ↓vAq, vBq, ↓reduceIte, Nat.reduceBEq, Nat.reduceEqDiff, Nat.reduceLT, Nat.reduceLeDiff, Nat.reduceAdd, Nat.reduceMul, Nat.reduceSub, reduceCtorEq, Int.reduceToNat]) | (refine Br.mk ?_ ?_ <;> intro h) | (refine BrN.mk (fun h => ?_) ?_) | (refine AltVC.mk ?_ ?_)
      refine CallVC.stay 2 ?_
      have hpos : 0 < T.length := by rw [hB.tri.len]; exact hB.tri.pos
      repeat' first | ((first | refine Br.dec ?_ ?_ | refine Br.eqi ?_ ?_) <;> intro h <;> try (exfalso; omega)) | (simp (disch := first | omega | (simp only [vlen]; first | done | omega)) only [vav, ↓vAq, vBq, ↓reduceIte, Nat.reduceBEq, Nat.reduceEqDiff, Nat.reduceLT, Nat.reduceLeDiff, Nat.reduceAdd, Nat.reduceMul, Nat.reduceSub, reduceCtorEq, Int.reduceToNat]) | (refine Br.mk ?_ ?_ <;> intro h) | (refine BrN.mk (fun h => ?_) ?_) | (refine AltVC.mk ?_ ?_)
      refine CallVC.lendE [2] [.ref 0 4 0 T.length] (ntO T) hLi (by simp) (by rfl) (by unfold ntO; (simp (disch := first | omega | (simp only [vlen]; first | done | omega)) only [vle0, vav, ↓vAq, vBq, ↓reduceIte, Nat.reduceBEq, Nat.reduceEqDiff, Nat.reduceLT, Nat.reduceLeDiff, Nat.reduceAdd, Nat.reduceMul, Nat.reduceSub, reduceCtorEq, Int.reduceToNat] <;> (repeat' first | rfl | apply And.intro))) ?_
      rintro _ _ ⟨rfl, T', rfl, hTl2, hAC⟩
      unfold ntO
      repeat' first | ((first | refine Br.dec ?_ ?_ | refine Br.eqi ?_ ?_) <;> intro h <;> try (exfalso; omega)) | (simp (disch := first | omega | (simp only [vlen]; first | done | omega)) only [vav, ↓vAq, vBq, ↓reduceIte, Nat.reduceBEq, Nat.reduceEqDiff, Nat.reduceLT, Nat.reduceLeDiff, Nat.reduceAdd, Nat.reduceMul, Nat.reduceSub, reduceCtorEq, Int.reduceToNat]) | (refine Br.mk ?_ ?_ <;> intro h) | (refine BrN.mk (fun h => ?_) ?_) | (refine AltVC.mk ?_ ?_)
      rw [← hTl2]
      exact finH_mk [none, none, some ⟨4, tbl ndD T', true, true, .fix⟩] (by simp) (by simp (disch := first | omega | (simp only [vlen]; first | done | omega)) only [vav, ↓vAq, vBq, ↓reduceIte, Nat.reduceBEq, Nat.reduceEqDiff, Nat.reduceLT, Nat.reduceLeDiff, Nat.reduceAdd, Nat.reduceMul, Nat.reduceSub, reduceCtorEq, Int.reduceToNat]) (by simp (disch := first | omega | (simp only [vlen]; first | done | omega)) only [vav, ↓vAq, vBq, ↓reduceIte, Nat.reduceBEq, Nat.reduceEqDiff, Nat.reduceLT, Nat.reduceLeDiff, Nat.reduceAdd, Nat.reduceMul, Nat.reduceSub, reduceCtorEq, Int.reduceToNat]) ⟨Ss, T', by simp (disch := first | omega | (simp only [vlen]; first | done | omega)) only [vav, ↓vAq, vBq, ↓reduceIte, Nat.reduceBEq, Nat.reduceEqDiff, Nat.reduceLT, Nat.reduceLeDiff, Nat.reduceAdd, Nat.reduceMul, Nat.reduceSub, reduceCtorEq, Int.reduceToNat], rfl, by omega, hAC⟩
end Go.Proofs.Ytdcdldfleeilnaa

namespace Go.Proofs.Ytdcdldfleeilnaa
open Go.Dm
set_option linter.unusedSimpArgs false
set_option linter.unnecessarySimpa false
set_option linter.unusedVariables false
set_option linter.defProp false
theorem anyH {α : Type} [Inhabited α] {l : List α} {p : α → Bool} {i : Nat} (h : i < l.length) (hp : p (l.getD i default) = true) : l.any p = true := List.any_eq_true.2 ⟨_, getD_mem' h, hp⟩
theorem anyN {α : Type} [Inhabited α] {l : List α} {p : α → Bool} {i : Nat} (hi : l.length ≤ i) (h : ∀ j, j < i → p (l.getD j default) = false) : l.any p = false := by
  rw [List.any_eq_false]
  intro x hx
  obtain ⟨j, hj, e⟩ := List.getElem_of_mem hx
  have := h j (by omega)
  rw [show l.getD j default = x by simp [List.getD, hj, e]] at this
  rw [this]; simp
def tooL (w : List UInt8) : Bool := decide (60 < w.length)
def nilW (w : List UInt8) : Bool := decide (w.length = 0)
def mnC (W : List (List UInt8)) (t : List UInt8) : Int := if 8 < W.length ∨ 60 < t.length ∨ W.any tooL = true then 1 else if W.any nilW = true then 2 else 0
theorem mnC_ok {W : List (List UInt8)} {t : List UInt8} (h : mnC W t = 0) : W.length ≤ 8 ∧ t.length ≤ 60 ∧ ∀ w, w ∈ W → 0 < w.length ∧ w.length ≤ 60 := by
  unfold mnC at h
  split at h
  · omega
  · next h1 =>
    split at h
    · omega
    · next h2 =>
      rw [not_or, not_or] at h1
      refine ⟨by omega, by omega, fun w hw => ?_⟩
      rw [Bool.not_eq_true, List.any_eq_false] at h2
      have a1 := h1.2.2
      rw [Bool.not_eq_true, List.any_eq_false] at a1
      have b1 := a1 w hw
      have b2 := h2 w hw
      unfold tooL at b1
      unfold nilW at b2
      simp at b1 b2
      exact ⟨List.length_pos_iff.2 b2, b1⟩
set_option maxRecDepth 10000 in
set_option maxHeartbeats 4000000 in
theorem largeM_spec (l : List (List UInt8)) (hl : l.length ≤ 9223372036854775807) (hw : ∀ w, w ∈ l → w.length ≤ 9223372036854775807) : Dm.Spec Try.prog 21 [.sl 1 (rows u8s l)] (· = iv .i64 (if l.any tooL = true then 1 else 0)) := by
  refine spec_of_vc mixed Try.func21 c21 (by rw [show Try.f21.ntmps = _ from Try.ntmps21]; simp) ?_
  unfold m21 r21
  repeat' first | ((first | refine Br.dec ?_ ?_ | refine Br.eqi ?_ ?_) <;> intro h <;> try (exfalso; omega)) | (simp (disch := first | omega | (simp only [vlen]; first | done | omega)) only [vav, ↓vAq, vBq, ↓reduceIte, Nat.reduceBEq, Nat.reduceEqDiff, Nat.reduceLT, Nat.reduceLeDiff, Nat.reduceAdd, Nat.reduceMul, Nat.reduceSub, reduceCtorEq, Int.reduceToNat]) | (refine Br.mk ?_ ?_ <;> intro h) | (refine BrN.mk (fun h => ?_) ?_) | (refine AltVC.mk ?_ ?_)
  refine LoopVC.mk (X := Nat) (fun i => [(7, iv .i64 i)]) (fun _ => []) (fun i => l.length - i) (fun i => i ≤ l.length ∧ ∀ j, j < i → tooL (l.getD j default) = false) 0 ⟨by omega, by omega⟩ ?_ ?_
  · (simp (disch := first | omega | (simp only [vlen]; first | done | omega)) only [Fits_u, Fits_m, Fits_nil, List.length_append, vav, ↓vAq, vBq, ↓reduceIte, Nat.reduceBEq, Nat.reduceEqDiff, Nat.reduceLT, Nat.reduceLeDiff, Nat.reduceAdd, Nat.reduceMul, Nat.reduceSub, reduceCtorEq, Int.reduceToNat] <;> (repeat' first | rfl | apply And.intro))
  · rintro i ⟨hi, hn⟩
    by_cases hil : i < l.length
    · have hwl := hw _ (getD_mem' hil)
      by_cases h60 : 60 < (l.getD i default).length
      · repeat' first | ((first | refine Br.dec ?_ ?_ | refine Br.eqi ?_ ?_) <;> intro h <;> try (exfalso; omega)) | (simp (disch := first | omega | (simp only [vlen]; first | done | omega)) only [vav, ↓vAq, vBq, ↓reduceIte, Nat.reduceBEq, Nat.reduceEqDiff, Nat.reduceLT, Nat.reduceLeDiff, Nat.reduceAdd, Nat.reduceMul, Nat.reduceSub, reduceCtorEq, Int.reduceToNat]) | (refine Br.mk ?_ ?_ <;> intro h) | (refine BrN.mk (fun h => ?_) ?_) | (refine AltVC.mk ?_ ?_)
        exact fin_mk (by rw [if_pos (anyH (p := tooL) (i := i) hil (decide_eq_true h60))])
      · repeat' first | ((first | refine Br.dec ?_ ?_ | refine Br.eqi ?_ ?_) <;> intro h <;> try (exfalso; omega)) | (simp (disch := first | omega | (simp only [vlen]; first | done | omega)) only [vav, ↓vAq, vBq, ↓reduceIte, Nat.reduceBEq, Nat.reduceEqDiff, Nat.reduceLT, Nat.reduceLeDiff, Nat.reduceAdd, Nat.reduceMul, Nat.reduceSub, reduceCtorEq, Int.reduceToNat]) | (refine Br.mk ?_ ?_ <;> intro h) | (refine BrN.mk (fun h => ?_) ?_) | (refine AltVC.mk ?_ ?_)
        refine loopK.mk (i + 1) (by simp (disch := first | omega | (simp only [vlen]; first | done | omega)) only [vav, ↓vAq, vBq, ↓reduceIte, Nat.reduceBEq, Nat.reduceEqDiff, Nat.reduceLT, Nat.reduceLeDiff, Nat.reduceAdd, Nat.reduceMul, Nat.reduceSub, reduceCtorEq, Int.reduceToNat]) ⟨by omega, fun j hj => ?_⟩ (by omega) (by (simp (disch := first | omega | (simp only [vlen]; first | done | omega)) only [Fits_u, Fits_m, Fits_nil, List.length_append, vav, ↓vAq, vBq, ↓reduceIte, Nat.reduceBEq, Nat.reduceEqDiff, Nat.reduceLT, Nat.reduceLeDiff, Nat.reduceAdd, Nat.reduceMul, Nat.reduceSub, reduceCtorEq, Int.reduceToNat] <;> (repeat' first | rfl | apply And.intro)))
        by_cases e : j = i
        · subst e; exact decide_eq_false h60
        · exact hn j (by omega)
    · repeat' first | ((first | refine Br.dec ?_ ?_ | refine Br.eqi ?_ ?_) <;> intro h <;> try (exfalso; omega)) | (simp (disch := first | omega | (simp only [vlen]; first | done | omega)) only [vav, ↓vAq, vBq, ↓reduceIte, Nat.reduceBEq, Nat.reduceEqDiff, Nat.reduceLT, Nat.reduceLeDiff, Nat.reduceAdd, Nat.reduceMul, Nat.reduceSub, reduceCtorEq, Int.reduceToNat]) | (refine Br.mk ?_ ?_ <;> intro h) | (refine BrN.mk (fun h => ?_) ?_) | (refine AltVC.mk ?_ ?_)
      exact fin_mk (by rw [if_neg (by rw [anyN (i := i) (by omega) hn]; simp)])
set_option maxRecDepth 10000 in
set_option maxHeartbeats 4000000 in
theorem emptyC_spec (w : List UInt8) (hw : w.length ≤ 9223372036854775807) : Dm.Spec Try.prog 35 [.sl 1 (u8s w)] (· = .v (.bool (nilW w))) := by
  refine spec_of_vc mixed Try.func35 c35 (by rw [show Try.f35.ntmps = _ from Try.ntmps35]; simp) ?_
  unfold m35 r35
  unfold nilW
  repeat' first | ((first | refine Br.dec ?_ ?_ | refine Br.eqi ?_ ?_) <;> intro h <;> try (exfalso; omega)) | (simp (disch := first | omega | (simp only [vlen]; first | done | omega)) only [vav, ↓vAq, vBq, ↓reduceIte, Nat.reduceBEq, Nat.reduceEqDiff, Nat.reduceLT, Nat.reduceLeDiff, Nat.reduceAdd, Nat.reduceMul, Nat.reduceSub, reduceCtorEq, Int.reduceToNat]) | (refine Br.mk ?_ ?_ <;> intro h) | (refine BrN.mk (fun h => ?_) ?_) | (refine AltVC.mk ?_ ?_)
  exact fin_mk (vbEq (by rw [Bool.eq_iff_iff]; simp))
set_option maxRecDepth 10000 in
set_option maxHeartbeats 4000000 in
theorem cloneB_words (l : List (List UInt8)) (h : l.length * 24 ≤ 140737488351232) : Dm.SpecH Try.prog 33 [.sl 1 (rows u8s l)] [] (fun d o => d = .ref 1 1 0 l.length ∧ o = [none, some ⟨1, rows u8s l, true, false, .arr⟩]) := by
  refine specH_of_vc mixed Try.func33 c33 (by rw [show Try.f33.ntmps = _ from Try.ntmps33]; simp) ?_
  unfold m33 r33
  repeat' first | ((first | refine Br.dec ?_ ?_ | refine Br.eqi ?_ ?_) <;> intro h <;> try (exfalso; omega)) | (simp (disch := first | omega | (simp only [vlen]; first | done | omega)) only [vav, ↓vAq, vBq, ↓reduceIte, Nat.reduceBEq, Nat.reduceEqDiff, Nat.reduceLT, Nat.reduceLeDiff, Nat.reduceAdd, Nat.reduceMul, Nat.reduceSub, reduceCtorEq, Int.reduceToNat]) | (refine Br.mk ?_ ?_ <;> intro h) | (refine BrN.mk (fun h => ?_) ?_) | (refine AltVC.mk ?_ ?_)
  · have : l = [] := List.eq_nil_of_length_eq_zero (by assumption)
    subst this
    exact finH_mk [none, some ⟨1, [], true, false, .arr⟩] (by simp) (by simp (disch := first | omega | (simp only [vlen]; first | done | omega)) only [vav, ↓vAq, vBq, ↓reduceIte, Nat.reduceBEq, Nat.reduceEqDiff, Nat.reduceLT, Nat.reduceLeDiff, Nat.reduceAdd, Nat.reduceMul, Nat.reduceSub, reduceCtorEq, Int.reduceToNat]) (by simp (disch := first | omega | (simp only [vlen]; first | done | omega)) only [vav, ↓vAq, vBq, ↓reduceIte, Nat.reduceBEq, Nat.reduceEqDiff, Nat.reduceLT, Nat.reduceLeDiff, Nat.reduceAdd, Nat.reduceMul, Nat.reduceSub, reduceCtorEq, Int.reduceToNat]) ⟨by simp (disch := first | omega | (simp only [vlen]; first | done | omega)) only [vav, ↓vAq, vBq, ↓reduceIte, Nat.reduceBEq, Nat.reduceEqDiff, Nat.reduceLT, Nat.reduceLeDiff, Nat.reduceAdd, Nat.reduceMul, Nat.reduceSub, reduceCtorEq, Int.reduceToNat], rfl⟩
  · exact finH_mk [none, some ⟨1, rows u8s l, true, false, .arr⟩] (by simp) (by simp (disch := first | omega | (simp only [vlen]; first | done | omega)) only [vav, ↓vAq, vBq, ↓reduceIte, Nat.reduceBEq, Nat.reduceEqDiff, Nat.reduceLT, Nat.reduceLeDiff, Nat.reduceAdd, Nat.reduceMul, Nat.reduceSub, reduceCtorEq, Int.reduceToNat]) (by simp (disch := first | omega | (simp only [vlen]; first | done | omega)) only [vav, ↓vAq, vBq, ↓reduceIte, Nat.reduceBEq, Nat.reduceEqDiff, Nat.reduceLT, Nat.reduceLeDiff, Nat.reduceAdd, Nat.reduceMul, Nat.reduceSub, reduceCtorEq, Int.reduceToNat]) ⟨by simp (disch := first | omega | (simp only [vlen]; first | done | omega)) only [vav, ↓vAq, vBq, ↓reduceIte, Nat.reduceBEq, Nat.reduceEqDiff, Nat.reduceLT, Nat.reduceLeDiff, Nat.reduceAdd, Nat.reduceMul, Nat.reduceSub, reduceCtorEq, Int.reduceToNat], rfl⟩
set_option maxRecDepth 10000 in
set_option maxHeartbeats 4000000 in
theorem mcheck_spec (W : List (List UInt8)) (hW : W.length * 24 ≤ 140737488351232) (hw : ∀ w, w ∈ W → w.length ≤ 9223372036854775807) (t : List UInt8) (ht : t.length ≤ 9223372036854775807) : Dm.Spec Try.prog 26 [.sl 1 (rows u8s W), .sl 1 (u8s t)] (· = iv .i64 (mnC W t)) := by
  refine spec_of_vc mixed Try.func26 c26 (by rw [show Try.f26.ntmps = _ from Try.ntmps26]; simp) ?_
  unfold m26 r26
  have hla := largeM_spec (W ++ [t]) (by simp; omega) (fun w h => by
    rcases List.mem_append.1 h with h | h
    · exact hw w h
    · rw [List.mem_singleton.1 h]; exact ht)
  have hrw : rows u8s W ++ [[.sl 1 (u8s t)]] = rows u8s (W ++ [t]) := by rw [rows_app]
  have hll : (W ++ [t]).length = W.length + 1 := by simp
  have hcf := conF_words W nilW 35 [] (by omega) (by rfl) (fun w h => emptyC_spec w (hw w h))
  repeat' first | ((first | refine Br.dec ?_ ?_ | refine Br.eqi ?_ ?_) <;> intro h <;> try (exfalso; omega)) | (simp (disch := first | omega | (simp only [vlen]; first | done | omega)) only [vav, ↓vAq, vBq, ↓reduceIte, Nat.reduceBEq, Nat.reduceEqDiff, Nat.reduceLT, Nat.reduceLeDiff, Nat.reduceAdd, Nat.reduceMul, Nat.reduceSub, reduceCtorEq, Int.reduceToNat]) | (refine Br.mk ?_ ?_ <;> intro h) | (refine BrN.mk (fun h => ?_) ?_) | (refine AltVC.mk ?_ ?_)
  refine CallVC.lendE [] [.sl 1 (rows u8s W)] [] (cloneB_words W (by omega)) (by simp) (by rfl) (by (simp (disch := first | omega | (simp only [vlen]; first | done | omega)) only [vle0, vav, ↓vAq, vBq, ↓reduceIte, Nat.reduceBEq, Nat.reduceEqDiff, Nat.reduceLT, Nat.reduceLeDiff, Nat.reduceAdd, Nat.reduceMul, Nat.reduceSub, reduceCtorEq, Int.reduceToNat] <;> (repeat' first | rfl | apply And.intro))) ?_
  rintro _ _ ⟨rfl, rfl⟩
  repeat' first | ((first | refine Br.dec ?_ ?_ | refine Br.eqi ?_ ?_) <;> intro h <;> try (exfalso; omega)) | (simp (disch := first | omega | (simp only [vlen]; first | done | omega)) only [hrw, hll, vav, ↓vAq, vBq, ↓reduceIte, Nat.reduceBEq, Nat.reduceEqDiff, Nat.reduceLT, Nat.reduceLeDiff, Nat.reduceAdd, Nat.reduceMul, Nat.reduceSub, reduceCtorEq, Int.reduceToNat]) | (refine Br.mk ?_ ?_ <;> intro h) | (refine BrN.mk (fun h => ?_) ?_) | (refine AltVC.mk ?_ ?_)
  have hany : (W ++ [t]).any tooL = (W.any tooL || tooL t) := by rw [List.any_append, List.any_cons, List.any_nil, Bool.or_false]
  cases hA : (W ++ [t]).any tooL with
  | true =>
    have hm : mnC W t = 1 := by
      rw [hany, Bool.or_eq_true] at hA
      unfold mnC
      rcases hA with h | h
      · rw [if_pos (.inr (.inr h))]
      · rw [if_pos (.inr (.inl (of_decide_eq_true h)))]
    rw [hA, if_pos rfl] at hla
    refine CallVC.eqo hla plain_v ?_
    repeat' first | ((first | refine Br.dec ?_ ?_ | refine Br.eqi ?_ ?_) <;> intro h <;> try (exfalso; omega)) | (simp (disch := first | omega | (simp only [vlen]; first | done | omega)) only [hrw, hll, vav, ↓vAq, vBq, ↓reduceIte, Nat.reduceBEq, Nat.reduceEqDiff, Nat.reduceLT, Nat.reduceLeDiff, Nat.reduceAdd, Nat.reduceMul, Nat.reduceSub, reduceCtorEq, Int.reduceToNat]) | (refine Br.mk ?_ ?_ <;> intro h) | (refine BrN.mk (fun h => ?_) ?_) | (refine AltVC.mk ?_ ?_)
    exact fin_mk (by rw [hm])
  | false =>
    have hno : W.any tooL = false ∧ ¬ 60 < t.length := by
      rw [hany, Bool.or_eq_false_iff] at hA
      exact ⟨hA.1, of_decide_eq_false hA.2⟩
    rw [hA, if_neg (by decide)] at hla
    refine CallVC.eqo hla plain_v ?_
    by_cases h8 : 8 < W.length
    · have hm : mnC W t = 1 := by unfold mnC; rw [if_pos (.inl h8)]
      repeat' first | ((first | refine Br.dec ?_ ?_ | refine Br.eqi ?_ ?_) <;> intro h <;> try (exfalso; omega)) | (simp (disch := first | omega | (simp only [vlen]; first | done | omega)) only [hrw, hll, vav, ↓vAq, vBq, ↓reduceIte, Nat.reduceBEq, Nat.reduceEqDiff, Nat.reduceLT, Nat.reduceLeDiff, Nat.reduceAdd, Nat.reduceMul, Nat.reduceSub, reduceCtorEq, Int.reduceToNat]) | (refine Br.mk ?_ ?_ <;> intro h) | (refine BrN.mk (fun h => ?_) ?_) | (refine AltVC.mk ?_ ?_)
      exact fin_mk (by rw [hm])
    · have hm : mnC W t = if W.any nilW = true then 2 else 0 := by
        unfold mnC
        rw [if_neg]
        rintro (h | h | h)
        · exact h8 h
        · exact hno.2 h
        · rw [hno.1] at h; cases h
      cases hB : W.any nilW with
      | true =>
        rw [hB] at hcf
        rw [hB, if_pos rfl] at hm
        repeat' first | ((first | refine Br.dec ?_ ?_ | refine Br.eqi ?_ ?_) <;> intro h <;> try (exfalso; omega)) | (simp (disch := first | omega | (simp only [vlen]; first | done | omega)) only [hrw, hll, vav, ↓vAq, vBq, ↓reduceIte, Nat.reduceBEq, Nat.reduceEqDiff, Nat.reduceLT, Nat.reduceLeDiff, Nat.reduceAdd, Nat.reduceMul, Nat.reduceSub, reduceCtorEq, Int.reduceToNat]) | (refine Br.mk ?_ ?_ <;> intro h) | (refine BrN.mk (fun h => ?_) ?_) | (refine AltVC.mk ?_ ?_)
        refine CallVC.eq hcf ?_
        repeat' first | ((first | refine Br.dec ?_ ?_ | refine Br.eqi ?_ ?_) <;> intro h <;> try (exfalso; omega)) | (simp (disch := first | omega | (simp only [vlen]; first | done | omega)) only [hrw, hll, vav, ↓vAq, vBq, ↓reduceIte, Nat.reduceBEq, Nat.reduceEqDiff, Nat.reduceLT, Nat.reduceLeDiff, Nat.reduceAdd, Nat.reduceMul, Nat.reduceSub, reduceCtorEq, Int.reduceToNat]) | (refine Br.mk ?_ ?_ <;> intro h) | (refine BrN.mk (fun h => ?_) ?_) | (refine AltVC.mk ?_ ?_)
        exact fin_mk (by rw [hm])
      | false =>
        rw [hB] at hcf
        rw [hB, if_neg (by decide)] at hm
        repeat' first | ((first | refine Br.dec ?_ ?_ | refine Br.eqi ?_ ?_) <;> intro h <;> try (exfalso; omega)) | (simp (disch := first | omega | (simp only [vlen]; first | done | omega)) only [hrw, hll, vav, ↓vAq, vBq, ↓reduceIte, Nat.reduceBEq, Nat.reduceEqDiff, Nat.reduceLT, Nat.reduceLeDiff, Nat.reduceAdd, Nat.reduceMul, Nat.reduceSub, reduceCtorEq, Int.reduceToNat]) | (refine Br.mk ?_ ?_ <;> intro h) | (refine BrN.mk (fun h => ?_) ?_) | (refine AltVC.mk ?_ ?_)
        refine CallVC.eq hcf ?_
        repeat' first | ((first | refine Br.dec ?_ ?_ | refine Br.eqi ?_ ?_) <;> intro h <;> try (exfalso; omega)) | (simp (disch := first | omega | (simp only [vlen]; first | done | omega)) only [hrw, hll, vav, ↓vAq, vBq, ↓reduceIte, Nat.reduceBEq, Nat.reduceEqDiff, Nat.reduceLT, Nat.reduceLeDiff, Nat.reduceAdd, Nat.reduceMul, Nat.reduceSub, reduceCtorEq, Int.reduceToNat]) | (refine Br.mk ?_ ?_ <;> intro h) | (refine BrN.mk (fun h => ?_) ?_) | (refine AltVC.mk ?_ ?_)
        exact fin_mk (by rw [hm])
set_option maxRecDepth 10000 in
set_option maxHeartbeats 4000000 in
theorem rcheck_spec (W : List (List UInt8)) (hW : W.length ≤ 9223372036854775807) (hw : ∀ w, w ∈ W → w.length ≤ 9223372036854775807) (t : List UInt8) (ht : t.length ≤ 9223372036854775807) : Dm.Spec Try.prog 16 [.sl 1 (rows u8s W), .sl 1 (u8s t)] (· = iv .i64 (mnC W t)) := by
  refine spec_of_vc mixed Try.func16 c16 (by rw [show Try.f16.ntmps = _ from Try.ntmps16]; simp) ?_
  unfold m16 r16
  by_cases h8 : 8 < W.length
  · have hm : mnC W t = 1 := by unfold mnC; rw [if_pos (.inl h8)]
    repeat' first | ((first | refine Br.dec ?_ ?_ | refine Br.eqi ?_ ?_) <;> intro h <;> try (exfalso; omega)) | (simp (disch := first | omega | (simp only [vlen]; first | done | omega)) only [vav, ↓vAq, vBq, ↓reduceIte, Nat.reduceBEq, Nat.reduceEqDiff, Nat.reduceLT, Nat.reduceLeDiff, Nat.reduceAdd, Nat.reduceMul, Nat.reduceSub, reduceCtorEq, Int.reduceToNat]) | (refine Br.mk ?_ ?_ <;> intro h) | (refine BrN.mk (fun h => ?_) ?_) | (refine AltVC.mk ?_ ?_)
    exact fin_mk (by rw [hm])
  by_cases h60 : 60 < t.length
  · have hm : mnC W t = 1 := by unfold mnC; rw [if_pos (.inr (.inl h60))]
    repeat' first | ((first | refine Br.dec ?_ ?_ | refine Br.eqi ?_ ?_) <;> intro h <;> try (exfalso; omega)) | (simp (disch := first | omega | (simp only [vlen]; first | done | omega)) only [vav, ↓vAq, vBq, ↓reduceIte, Nat.reduceBEq, Nat.reduceEqDiff, Nat.reduceLT, Nat.reduceLeDiff, Nat.reduceAdd, Nat.reduceMul, Nat.reduceSub, reduceCtorEq, Int.reduceToNat]) | (refine Br.mk ?_ ?_ <;> intro h) | (refine BrN.mk (fun h => ?_) ?_) | (refine AltVC.mk ?_ ?_)
    exact fin_mk (by rw [hm])
  repeat' first | ((first | refine Br.dec ?_ ?_ | refine Br.eqi ?_ ?_) <;> intro h <;> try (exfalso; omega)) | (simp (disch := first | omega | (simp only [vlen]; first | done | omega)) only [vav, ↓vAq, vBq, ↓reduceIte, Nat.reduceBEq, Nat.reduceEqDiff, Nat.reduceLT, Nat.reduceLeDiff, Nat.reduceAdd, Nat.reduceMul, Nat.reduceSub, reduceCtorEq, Int.reduceToNat]) | (refine Br.mk ?_ ?_ <;> intro h) | (refine BrN.mk (fun h => ?_) ?_) | (refine AltVC.mk ?_ ?_)
  refine LoopVC.mk (X := Nat) (fun i => [(19, iv .i64 i)]) (fun _ => []) (fun i => W.length - i) (fun i => i ≤ W.length ∧ ∀ j, j < i → tooL (W.getD j default) = false) 0 ⟨by omega, by omega⟩ ?_ ?_
  · (simp (disch := first | omega | (simp only [vlen]; first | done | omega)) only [Fits_u, Fits_m, Fits_nil, List.length_append, vav, ↓vAq, vBq, ↓reduceIte, Nat.reduceBEq, Nat.reduceEqDiff, Nat.reduceLT, Nat.reduceLeDiff, Nat.reduceAdd, Nat.reduceMul, Nat.reduceSub, reduceCtorEq, Int.reduceToNat] <;> (repeat' first | rfl | apply And.intro))
  · rintro i ⟨hi, hn⟩
    by_cases hil : i < W.length
    · have hwl := hw _ (getD_mem' hil)
      by_cases h60 : 60 < (W.getD i default).length
      · have hm : mnC W t = 1 := by unfold mnC; rw [if_pos (.inr (.inr (anyH (p := tooL) (i := i) hil (decide_eq_true h60))))]
        repeat' first | ((first | refine Br.dec ?_ ?_ | refine Br.eqi ?_ ?_) <;> intro h <;> try (exfalso; omega)) | (simp (disch := first | omega | (simp only [vlen]; first | done | omega)) only [vav, ↓vAq, vBq, ↓reduceIte, Nat.reduceBEq, Nat.reduceEqDiff, Nat.reduceLT, Nat.reduceLeDiff, Nat.reduceAdd, Nat.reduceMul, Nat.reduceSub, reduceCtorEq, Int.reduceToNat]) | (refine Br.mk ?_ ?_ <;> intro h) | (refine BrN.mk (fun h => ?_) ?_) | (refine AltVC.mk ?_ ?_)
        exact fin_mk (by rw [hm])
      · repeat' first | ((first | refine Br.dec ?_ ?_ | refine Br.eqi ?_ ?_) <;> intro h <;> try (exfalso; omega)) | (simp (disch := first | omega | (simp only [vlen]; first | done | omega)) only [vav, ↓vAq, vBq, ↓reduceIte, Nat.reduceBEq, Nat.reduceEqDiff, Nat.reduceLT, Nat.reduceLeDiff, Nat.reduceAdd, Nat.reduceMul, Nat.reduceSub, reduceCtorEq, Int.reduceToNat]) | (refine Br.mk ?_ ?_ <;> intro h) | (refine BrN.mk (fun h => ?_) ?_) | (refine AltVC.mk ?_ ?_)
        refine loopK.mk (i + 1) (by simp (disch := first | omega | (simp only [vlen]; first | done | omega)) only [vav, ↓vAq, vBq, ↓reduceIte, Nat.reduceBEq, Nat.reduceEqDiff, Nat.reduceLT, Nat.reduceLeDiff, Nat.reduceAdd, Nat.reduceMul, Nat.reduceSub, reduceCtorEq, Int.reduceToNat]) ⟨by omega, fun j hj => ?_⟩ (by omega) (by (simp (disch := first | omega | (simp only [vlen]; first | done | omega)) only [Fits_u, Fits_m, Fits_nil, List.length_append, vav, ↓vAq, vBq, ↓reduceIte, Nat.reduceBEq, Nat.reduceEqDiff, Nat.reduceLT, Nat.reduceLeDiff, Nat.reduceAdd, Nat.reduceMul, Nat.reduceSub, reduceCtorEq, Int.reduceToNat] <;> (repeat' first | rfl | apply And.intro)))
        by_cases e : j = i
        · subst e; exact decide_eq_false h60
        · exact hn j (by omega)
    · have hA := anyN (p := tooL) (l := W) (i := i) (by omega) hn
      have hm : mnC W t = if W.any nilW = true then 2 else 0 := by
        unfold mnC
        rw [if_neg]
        rintro (h | h | h)
        · exact h8 h
        · exact h60 h
        · rw [hA] at h; cases h
      repeat' first | ((first | refine Br.dec ?_ ?_ | refine Br.eqi ?_ ?_) <;> intro h <;> try (exfalso; omega)) | (simp (disch := first | omega | (simp only [vlen]; first | done | omega)) only [vav, ↓vAq, vBq, ↓reduceIte, Nat.reduceBEq, Nat.reduceEqDiff, Nat.reduceLT, Nat.reduceLeDiff, Nat.reduceAdd, Nat.reduceMul, Nat.reduceSub, reduceCtorEq, Int.reduceToNat]) | (refine Br.mk ?_ ?_ <;> intro h) | (refine BrN.mk (fun h => ?_) ?_) | (refine AltVC.mk ?_ ?_)
      refine LoopVC.mk (X := Nat) (fun i => [(29, iv .i64 i)]) (fun _ => []) (fun i => W.length - i) (fun i => i ≤ W.length ∧ ∀ j, j < i → nilW (W.getD j default) = false) 0 ⟨by omega, by omega⟩ ?_ ?_
      · (simp (disch := first | omega | (simp only [vlen]; first | done | omega)) only [Fits_u, Fits_m, Fits_nil, List.length_append, vav, ↓vAq, vBq, ↓reduceIte, Nat.reduceBEq, Nat.reduceEqDiff, Nat.reduceLT, Nat.reduceLeDiff, Nat.reduceAdd, Nat.reduceMul, Nat.reduceSub, reduceCtorEq, Int.reduceToNat] <;> (repeat' first | rfl | apply And.intro))
      · rintro i ⟨hi, hn⟩
        by_cases hil : i < W.length
        · have hwl := hw _ (getD_mem' hil)
          by_cases h0 : (W.getD i default).length = 0
          · rw [if_pos (anyH (p := nilW) (i := i) hil (decide_eq_true h0))] at hm
            repeat' first | ((first | refine Br.dec ?_ ?_ | refine Br.eqi ?_ ?_) <;> intro h <;> try (exfalso; omega)) | (simp (disch := first | omega | (simp only [vlen]; first | done | omega)) only [h0, vav, ↓vAq, vBq, ↓reduceIte, Nat.reduceBEq, Nat.reduceEqDiff, Nat.reduceLT, Nat.reduceLeDiff, Nat.reduceAdd, Nat.reduceMul, Nat.reduceSub, reduceCtorEq, Int.reduceToNat]) | (refine Br.mk ?_ ?_ <;> intro h) | (refine BrN.mk (fun h => ?_) ?_) | (refine AltVC.mk ?_ ?_)
            exact fin_mk (by rw [hm])
          · repeat' first | ((first | refine Br.dec ?_ ?_ | refine Br.eqi ?_ ?_) <;> intro h <;> try (exfalso; omega)) | (simp (disch := first | omega | (simp only [vlen]; first | done | omega)) only [vav, ↓vAq, vBq, ↓reduceIte, Nat.reduceBEq, Nat.reduceEqDiff, Nat.reduceLT, Nat.reduceLeDiff, Nat.reduceAdd, Nat.reduceMul, Nat.reduceSub, reduceCtorEq, Int.reduceToNat]) | (refine Br.mk ?_ ?_ <;> intro h) | (refine BrN.mk (fun h => ?_) ?_) | (refine AltVC.mk ?_ ?_)
            refine loopK.mk (i + 1) (by simp (disch := first | omega | (simp only [vlen]; first | done | omega)) only [vav, ↓vAq, vBq, ↓reduceIte, Nat.reduceBEq, Nat.reduceEqDiff, Nat.reduceLT, Nat.reduceLeDiff, Nat.reduceAdd, Nat.reduceMul, Nat.reduceSub, reduceCtorEq, Int.reduceToNat]) ⟨by omega, fun j hj => ?_⟩ (by omega) (by (simp (disch := first | omega | (simp only [vlen]; first | done | omega)) only [Fits_u, Fits_m, Fits_nil, List.length_append, vav, ↓vAq, vBq, ↓reduceIte, Nat.reduceBEq, Nat.reduceEqDiff, Nat.reduceLT, Nat.reduceLeDiff, Nat.reduceAdd, Nat.reduceMul, Nat.reduceSub, reduceCtorEq, Int.reduceToNat] <;> (repeat' first | rfl | apply And.intro)))
            by_cases e : j = i
            · subst e; exact decide_eq_false h0
            · exact hn j (by omega)
        · rw [anyN (p := nilW) (l := W) (i := i) (by omega) hn, if_neg (by decide)] at hm
          repeat' first | ((first | refine Br.dec ?_ ?_ | refine Br.eqi ?_ ?_) <;> intro h <;> try (exfalso; omega)) | (simp (disch := first | omega | (simp only [vlen]; first | done | omega)) only [vav, ↓vAq, vBq, ↓reduceIte, Nat.reduceBEq, Nat.reduceEqDiff, Nat.reduceLT, Nat.reduceLeDiff, Nat.reduceAdd, Nat.reduceMul, Nat.reduceSub, reduceCtorEq, Int.reduceToNat]) | (refine Br.mk ?_ ?_ <;> intro h) | (refine BrN.mk (fun h => ?_) ?_) | (refine AltVC.mk ?_ ?_)
          exact fin_mk (by rw [hm])
end Go.Proofs.Ytdcdldfleeilnaa

namespace Go.Proofs.Ytdcdldfleeilnaa
open Go.Dm
set_option linter.unusedSimpArgs false
set_option linter.unnecessarySimpa false
set_option linter.unusedVariables false
set_option linter.defProp false
def hitD (p : Nat × Nat) : List D := [iv .i64 p.1, iv .i64 p.2]
def endN (W : List (List UInt8)) (t : List UInt8) (k : Nat) : List Nat := nums_ W.length fun x => decide (W.getD x [] <:+ t.take k)
def hitK (W : List (List UInt8)) (t : List UInt8) (k : Nat) : List (Nat × Nat) := (endN W t (k + 1)).map fun x => (k + 1, x)
def hitL (W : List (List UInt8)) (t : List UInt8) (k : Nat) : List (Nat × Nat) := (List.range k).flatMap (hitK W t)
theorem hitL_succ {W : List (List UInt8)} {t : List UInt8} {k : Nat} : hitL W t (k + 1) = hitL W t k ++ hitK W t k := by
  unfold hitL
  rw [List.range_succ, List.flatMap_append, List.flatMap_cons, List.flatMap_nil, List.append_nil]
theorem hitK_len {W : List (List UInt8)} {t : List UInt8} {k : Nat} : (hitK W t k).length ≤ W.length := by
  unfold hitK; rw [List.length_map]; exact nums_len
theorem hitL_len {W : List (List UInt8)} {t : List UInt8} (hW : W.length ≤ 8) : ∀ {k : Nat}, (hitL W t k).length ≤ 8 * k
  | 0 => by simp [hitL]
  | k + 1 => by
    have h1 := @hitL_len W t hW k
    have h2 := @hitK_len W t k
    rw [hitL_succ, List.length_append]; omega
theorem hit_app {L : List (Nat × Nat)} {a b : Nat} : tbl hitD L ++ [[D.v (.int .i64 ((a : Int) + 1)), D.v (.int .i64 (b : Int))]] = tbl hitD (L ++ [(a + 1, b)]) := by rw [tbl_app]; rfl
theorem acLS {W Ss : List (List UInt8)} {T : List Nd} (h : AC W Ss T) {b : Nat} (hb : b < T.length) {t : List UInt8} {k : Nat} (hL : LS Ss (t.take k) (Ss.getD b [])) : (T.getD b default).ws = endN W t k := by
  rw [h.ws b hb]
  exact nums_ext fun x hx => by
    rw [decide_eq_decide]
    exact (hL.suf ((h.bg _).2 (.inr ⟨W.getD x [], getD_mem' hx, List.prefix_refl _⟩))).symm
theorem iN_get {l : List Nat} {q : Nat} {d : List D} (h : q < l.length) : (i64s (natI l)).getD q d = [.v (.int .i64 ((l.getD q 0 : Nat) : Int))] := by simp [i64s, natI, List.getD_eq_getElem?_getD, h]
theorem trim_sets {l : List (List D)} {i m : Nat} {x : List D} : List.map (fun e => List.map (D.trim m) e) (l.set i x) = (List.map (fun e => List.map (D.trim m) e) l).set i (x.map (D.trim m)) := List.map_set
theorem trim_tbl {T : List Nd} {m : Nat} : List.map (fun e => List.map (D.trim m) e) (tbl ndD T) = tbl ndD T := by
  have e : ((fun e => List.map (D.trim m) e) ∘ ndD) = ndD := by funext x; simp [ndD, trim_om, trim_oo, trim_v]
  simp [tbl, e]
def vmg := And.intro vav <| And.intro @trim_sets <| And.intro @trim_tbl <| And.intro @hit_app @iN_get
def FdR (W : List (List UInt8)) (t : List UInt8) (d : D) : Prop := (mnC W t ≠ 0 ∧ d = .tu [.sl 2 [], iv .i64 (mnC W t)]) ∨ (mnC W t = 0 ∧ d = .tu [.sl 2 (tbl hitD (hitL W t t.length)), iv .i64 0])
set_option maxRecDepth 10000 in
set_option maxHeartbeats 4000000 in
theorem find_spec (W : List (List UInt8)) (hW : W.length * 24 ≤ 140737488351232) (hw : ∀ w, w ∈ W → w.length ≤ 9223372036854775807) (t : List UInt8) (ht : t.length ≤ 9223372036854775807) : Dm.Spec Try.prog 18 [.sl 1 (rows u8s W), .sl 1 (u8s t)] (FdR W t) := by
  refine spec_of_vc mixed Try.func18 c18 (by rw [show Try.f18.ntmps = _ from Try.ntmps18]; simp) ?_
  unfold m18 r18
  have hck := mcheck_spec W hW hw t ht
  by_cases hm : mnC W t = 0
  rotate_left
  · repeat' first | ((first | refine Br.dec ?_ ?_ | refine Br.eqi ?_ ?_) <;> intro h <;> try (exfalso; omega)) | (simp (disch := first | omega | (simp only [vlen]; first | done | omega)) only [vmg, ↓vAq, vBq, ↓reduceIte, Nat.reduceBEq, Nat.reduceEqDiff, Nat.reduceLT, Nat.reduceLeDiff, Nat.reduceAdd, Nat.reduceMul, Nat.reduceSub, reduceCtorEq, Int.reduceToNat]) | (refine Br.mk ?_ ?_ <;> intro h) | (refine BrN.mk (fun h => ?_) ?_) | (refine AltVC.mk ?_ ?_)
    refine CallVC.eq hck ?_
    repeat' first | ((first | refine Br.dec ?_ ?_ | refine Br.eqi ?_ ?_) <;> intro h <;> try (exfalso; omega)) | (simp (disch := first | omega | (simp only [vlen]; first | done | omega)) only [vmg, ↓vAq, vBq, ↓reduceIte, Nat.reduceBEq, Nat.reduceEqDiff, Nat.reduceLT, Nat.reduceLeDiff, Nat.reduceAdd, Nat.reduceMul, Nat.reduceSub, reduceCtorEq, Int.reduceToNat]) | (refine Br.mk ?_ ?_ <;> intro h) | (refine BrN.mk (fun h => ?_) ?_) | (refine AltVC.mk ?_ ?_)
    exact fin_mk (.inl ⟨hm, rfl⟩)
  rw [hm] at hck
  obtain ⟨h8, h60, hwl⟩ := mnC_ok hm
  repeat' first | ((first | refine Br.dec ?_ ?_ | refine Br.eqi ?_ ?_) <;> intro h <;> try (exfalso; omega)) | (simp (disch := first | omega | (simp only [vlen]; first | done | omega)) only [vmg, ↓vAq, vBq, ↓reduceIte, Nat.reduceBEq, Nat.reduceEqDiff, Nat.reduceLT, Nat.reduceLeDiff, Nat.reduceAdd, Nat.reduceMul, Nat.reduceSub, reduceCtorEq, Int.reduceToNat]) | (refine Br.mk ?_ ?_ <;> intro h) | (refine BrN.mk (fun h => ?_) ?_) | (refine AltVC.mk ?_ ?_)
  refine CallVC.eq hck ?_
  repeat' first | ((first | refine Br.dec ?_ ?_ | refine Br.eqi ?_ ?_) <;> intro h <;> try (exfalso; omega)) | (simp (disch := first | omega | (simp only [vlen]; first | done | omega)) only [vmg, ↓vAq, vBq, ↓reduceIte, Nat.reduceBEq, Nat.reduceEqDiff, Nat.reduceLT, Nat.reduceLeDiff, Nat.reduceAdd, Nat.reduceMul, Nat.reduceSub, reduceCtorEq, Int.reduceToNat]) | (refine Br.mk ?_ ?_ <;> intro h) | (refine BrN.mk (fun h => ?_) ?_) | (refine AltVC.mk ?_ ?_)
  refine CallVC.lendE [] [.sl 1 (rows u8s W)] [] (build_spec W h8 fun w h => by have := hwl w h; omega) (by simp) (by rfl) (by (simp (disch := first | omega | (simp only [vlen]; first | done | omega)) only [vle0, vmg, ↓vAq, vBq, ↓reduceIte, Nat.reduceBEq, Nat.reduceEqDiff, Nat.reduceLT, Nat.reduceLeDiff, Nat.reduceAdd, Nat.reduceMul, Nat.reduceSub, reduceCtorEq, Int.reduceToNat] <;> (repeat' first | rfl | apply And.intro))) ?_
  rintro _ _ ⟨Ss, T, rfl, rfl, hTl, hA⟩
  repeat' first | ((first | refine Br.dec ?_ ?_ | refine Br.eqi ?_ ?_) <;> intro h <;> try (exfalso; omega)) | (simp (disch := first | omega | (simp only [vlen]; first | done | omega)) only [vmg, ↓vAq, vBq, ↓reduceIte, Nat.reduceBEq, Nat.reduceEqDiff, Nat.reduceLT, Nat.reduceLeDiff, Nat.reduceAdd, Nat.reduceMul, Nat.reduceSub, reduceCtorEq, Int.reduceToNat]) | (refine Br.mk ?_ ?_ <;> intro h) | (refine BrN.mk (fun h => ?_) ?_) | (refine AltVC.mk ?_ ?_)
  have hwn : ∀ a, a < T.length → (T.getD a default).ws.length ≤ 8 := fun a ha => by rw [hA.ws a ha]; exact Nat.le_trans nums_len h8
  have hpos : 0 < T.length := by rw [hA.tri.len]; exact hA.tri.pos
  have hSl : ∀ v, v ∈ Ss → v.length ≤ 100000 := fun v hv => by
    rcases (hA.bg v).1 hv with e | ⟨w, hw', hp⟩
    · rw [e]; exact Nat.zero_le _
    · have := hwl w hw'
      have := hp.length_le
      omega
  refine LoopVC.mk (X := Nat × Nat) (fun x => [(7, .ref 3 4 0 T.length), (8, .ref 4 2 0 (hitL W t x.1).length), (9, iv .i64 x.2), (24, iv .i64 x.1)]) (fun x => [(3, ⟨4, tbl ndD T, true, true, .fix⟩), (4, ⟨2, tbl hitD (hitL W t x.1), true, false, .arr⟩)]) (fun x => t.length - x.1) (fun x => x.1 ≤ t.length ∧ x.2 < T.length ∧ LS Ss (t.take x.1) (Ss.getD x.2 [])) (0, 0) ⟨Nat.zero_le _, hpos, by rw [hA.tri.zero]; exact .self hA.tri.pc.1⟩ ?_ ?_
  · (simp (disch := first | omega | (simp only [vlen]; first | done | omega)) only [Fits_u, Fits_m, Fits_nil, List.length_append, vmg, ↓vAq, vBq, ↓reduceIte, Nat.reduceBEq, Nat.reduceEqDiff, Nat.reduceLT, Nat.reduceLeDiff, Nat.reduceAdd, Nat.reduceMul, Nat.reduceSub, reduceCtorEq, Int.reduceToNat] <;> (repeat' first | rfl | apply And.intro))
    all_goals first | rfl | trace_state
  · rintro ⟨k, a⟩ ⟨hk, ha, hL⟩
    simp only at hk ha hL ⊢
    by_cases hkl : k < t.length
    · obtain ⟨c, hc⟩ : ∃ c, t.getD k 0 = c := ⟨_, rfl⟩
      have htk := take_byte hkl
      rw [hc] at htk
      have hLl := @hitL_len W t h8 k
      have hst := step_spec Ss T hA.tri hTl 100000 (by omega) (fun a ha h0 _ => hA.fl a ha h0) a ha (hSl _ (str_mem (by rw [← hA.tri.len]; exact ha))) c
      have hc8 : c.toNat < 256 := c.toNat_lt
      repeat' first | ((first | refine Br.dec ?_ ?_ | refine Br.eqi ?_ ?_) <;> intro h <;> try (exfalso; omega)) | (simp (disch := first | omega | (simp only [vlen]; first | done | omega)) only [hc, vmg, ↓vAq, vBq, ↓reduceIte, Nat.reduceBEq, Nat.reduceEqDiff, Nat.reduceLT, Nat.reduceLeDiff, Nat.reduceAdd, Nat.reduceMul, Nat.reduceSub, reduceCtorEq, Int.reduceToNat]) | (refine Br.mk ?_ ?_ <;> intro h) | (refine BrN.mk (fun h => ?_) ?_) | (refine AltVC.mk ?_ ?_)
      refine CallVC.lendE [3] [.ref 0 4 0 T.length, iv .i64 a, .v (.int .u8 (c.toNat : Int))] (ntO T) hst (by simp) (by rfl) (by unfold ntO; (simp (disch := first | omega | (simp only [vlen]; first | done | omega)) only [vle0, vmg, ↓vAq, vBq, ↓reduceIte, Nat.reduceBEq, Nat.reduceEqDiff, Nat.reduceLT, Nat.reduceLeDiff, Nat.reduceAdd, Nat.reduceMul, Nat.reduceSub, reduceCtorEq, Int.reduceToNat] <;> (repeat' first | rfl | apply And.intro))) ?_
      rintro _ _ ⟨rfl, b, rfl, hb, hLb⟩
      unfold ntO
      have hL2 : LS Ss (t.take (k + 1)) (Ss.getD b []) := by rw [htk]; exact (hL.snoc hA.tri.pc).2 hLb
      have hws := acLS hA hb hL2
      have hwb := hwn b hb
      repeat' first | ((first | refine Br.dec ?_ ?_ | refine Br.eqi ?_ ?_) <;> intro h <;> try (exfalso; omega)) | (simp (disch := first | omega | (simp only [vlen]; first | done | omega)) only [vmg, ↓vAq, vBq, ↓reduceIte, Nat.reduceBEq, Nat.reduceEqDiff, Nat.reduceLT, Nat.reduceLeDiff, Nat.reduceAdd, Nat.reduceMul, Nat.reduceSub, reduceCtorEq, Int.reduceToNat]) | (refine Br.mk ?_ ?_ <;> intro h) | (refine BrN.mk (fun h => ?_) ?_) | (refine AltVC.mk ?_ ?_)
      refine LoopVC.mk (X := Nat) (fun q => [(7, .ref 3 4 0 T.length), (8, .ref 4 2 0 (hitL W t k ++ (hitK W t k).take q).length), (37, .ref 5 1 0 (T.getD b default).ws.length), (39, iv .i64 q)]) (fun q => [(3, ⟨4, (tbl ndD T).set b [.omp acK 2 (tbl acE (T.getD b default).nx), iv .i64 (T.getD b default).fl, iv .i64 (T.getD b default).lo, .ref 5 1 0 (T.getD b default).ws.length], false, true, .fix⟩), (4, ⟨2, tbl hitD (hitL W t k ++ (hitK W t k).take q), true, false, .arr⟩), (5, ⟨1, i64s (natI (T.getD b default).ws), true, false, .arr⟩)]) (fun q => (T.getD b default).ws.length - q) (fun q => q ≤ (T.getD b default).ws.length) 0 (Nat.zero_le _) ?_ ?_
      · (simp (disch := first | omega | (simp only [vlen]; first | done | omega)) only [Fits_u, Fits_m, Fits_nil, List.length_append, List.append_nil, vmg, ↓vAq, vBq, ↓reduceIte, Nat.reduceBEq, Nat.reduceEqDiff, Nat.reduceLT, Nat.reduceLeDiff, Nat.reduceAdd, Nat.reduceMul, Nat.reduceSub, reduceCtorEq, Int.reduceToNat] <;> (repeat' first | rfl | apply And.intro))
        all_goals first | rfl | trace_state
      · intro q hq
        have hKl : (hitK W t k).length = (T.getD b default).ws.length := by rw [hws]; unfold hitK; simp
        have htl : ((hitK W t k).take q).length = q := by rw [List.length_take]; omega
        by_cases hql : q < (T.getD b default).ws.length
        · obtain ⟨x, hx⟩ : ∃ x, (T.getD b default).ws.getD q 0 = x := ⟨_, rfl⟩
          have hts : (hitK W t k).take (q + 1) = (hitK W t k).take q ++ [(k + 1, x)] := by
            rw [take_succ_getD (by omega) default]
            congr 2
            rw [hws] at hx hql
            unfold hitK
            simp [List.getD_eq_getElem?_getD, hql] at hx ⊢
            exact hx
          have hl1 : (hitL W t k ++ (hitK W t k).take q).length = (hitL W t k).length + q := by rw [List.length_append, htl]
          have hl2 : (hitL W t k ++ (hitK W t k).take (q + 1)).length = (hitL W t k).length + q + 1 := by rw [hts, List.length_append, List.length_append, htl]; rfl
          repeat' first | ((first | refine Br.dec ?_ ?_ | refine Br.eqi ?_ ?_) <;> intro h <;> try (exfalso; omega)) | (simp (disch := first | omega | (simp only [vlen]; first | done | omega)) only [hx, hl1, vmg, ↓vAq, vBq, ↓reduceIte, Nat.reduceBEq, Nat.reduceEqDiff, Nat.reduceLT, Nat.reduceLeDiff, Nat.reduceAdd, Nat.reduceMul, Nat.reduceSub, reduceCtorEq, Int.reduceToNat]) | (refine Br.mk ?_ ?_ <;> intro h) | (refine BrN.mk (fun h => ?_) ?_) | (refine AltVC.mk ?_ ?_)
          refine loopK.mk (q + 1) (by simp (disch := first | omega | (simp only [vlen]; first | done | omega)) only [vmg, ↓vAq, vBq, ↓reduceIte, Nat.reduceBEq, Nat.reduceEqDiff, Nat.reduceLT, Nat.reduceLeDiff, Nat.reduceAdd, Nat.reduceMul, Nat.reduceSub, reduceCtorEq, Int.reduceToNat]) (by show q + 1 ≤ _; omega) (by show (T.getD b default).ws.length - (q + 1) < (T.getD b default).ws.length - q; omega) ?_
          (simp (disch := first | omega | (simp only [vlen]; first | done | omega)) only [Fits_u, Fits_m, Fits_nil, List.length_append, hl1, hl2, vmg, ↓vAq, vBq, ↓reduceIte, Nat.reduceBEq, Nat.reduceEqDiff, Nat.reduceLT, Nat.reduceLeDiff, Nat.reduceAdd, Nat.reduceMul, Nat.reduceSub, reduceCtorEq, Int.reduceToNat] <;> (repeat' first | rfl | apply And.intro))
          all_goals first | (rw [hts, ← List.append_assoc]; done) | rfl | trace_state
        · have hqe : q = (T.getD b default).ws.length := by omega
          have htk2 : (hitK W t k).take q = hitK W t k := List.take_of_length_le (by omega)
          rw [htk2, ← hitL_succ]
          repeat' first | ((first | refine Br.dec ?_ ?_ | refine Br.eqi ?_ ?_) <;> intro h <;> try (exfalso; omega)) | (simp (disch := first | omega | (simp only [vlen]; first | done | omega)) only [hqe, vmg, ↓vAq, vBq, ↓reduceIte, Nat.reduceBEq, Nat.reduceEqDiff, Nat.reduceLT, Nat.reduceLeDiff, Nat.reduceAdd, Nat.reduceMul, Nat.reduceSub, reduceCtorEq, Int.reduceToNat]) | (refine Br.mk ?_ ?_ <;> intro h) | (refine BrN.mk (fun h => ?_) ?_) | (refine AltVC.mk ?_ ?_)
          refine loopK.fold 5 3 b 3 true ?_
          repeat' first | ((first | refine Br.dec ?_ ?_ | refine Br.eqi ?_ ?_) <;> intro h <;> try (exfalso; omega)) | (simp (disch := first | omega | (simp only [vlen]; first | done | omega)) only [vmg, ↓vAq, vBq, ↓reduceIte, Nat.reduceBEq, Nat.reduceEqDiff, Nat.reduceLT, Nat.reduceLeDiff, Nat.reduceAdd, Nat.reduceMul, Nat.reduceSub, reduceCtorEq, Int.reduceToNat]) | (refine Br.mk ?_ ?_ <;> intro h) | (refine BrN.mk (fun h => ?_) ?_) | (refine AltVC.mk ?_ ?_)
          refine loopK.mk (k + 1, b) (by simp (disch := first | omega | (simp only [vlen]; first | done | omega)) only [vmg, ↓vAq, vBq, ↓reduceIte, Nat.reduceBEq, Nat.reduceEqDiff, Nat.reduceLT, Nat.reduceLeDiff, Nat.reduceAdd, Nat.reduceMul, Nat.reduceSub, reduceCtorEq, Int.reduceToNat]) ⟨by show k + 1 ≤ t.length; omega, hb, hL2⟩ (by show t.length - (k + 1) < t.length - k; omega) ?_
          (simp (disch := first | omega | (simp only [vlen]; first | done | omega)) only [Fits_u, Fits_m, Fits_nil, List.length_append, vmg, ↓vAq, vBq, ↓reduceIte, Nat.reduceBEq, Nat.reduceEqDiff, Nat.reduceLT, Nat.reduceLeDiff, Nat.reduceAdd, Nat.reduceMul, Nat.reduceSub, reduceCtorEq, Int.reduceToNat] <;> (repeat' first | rfl | apply And.intro))
          all_goals first | rfl | trace_state
    · have hke : k = t.length := by omega
      subst hke
      repeat' first | ((first | refine Br.dec ?_ ?_ | refine Br.eqi ?_ ?_) <;> intro h <;> try (exfalso; omega)) | (simp (disch := first | omega | (simp only [vlen]; first | done | omega)) only [vmg, ↓vAq, vBq, ↓reduceIte, Nat.reduceBEq, Nat.reduceEqDiff, Nat.reduceLT, Nat.reduceLeDiff, Nat.reduceAdd, Nat.reduceMul, Nat.reduceSub, reduceCtorEq, Int.reduceToNat]) | (refine Br.mk ?_ ?_ <;> intro h) | (refine BrN.mk (fun h => ?_) ?_) | (refine AltVC.mk ?_ ?_)
      exact fin_mk (.inr ⟨hm, rfl⟩)
end Go.Proofs.Ytdcdldfleeilnaa

namespace Go.Proofs.Ytdcdldfleeilnaa
open Go.Dm
set_option linter.unusedSimpArgs false
set_option linter.unnecessarySimpa false
set_option linter.unusedVariables false
end Go.Proofs.Ytdcdldfleeilnaa

namespace Go.Proofs.Ytdcdldfleeilnaa
open Go.Dm
set_option linter.unusedSimpArgs false
set_option linter.unnecessarySimpa false
set_option linter.unusedVariables false
set_option linter.defProp false
theorem suf_at {u w : List UInt8} : w <:+ u ↔ w.length ≤ u.length ∧ u.drop (u.length - w.length) = w := by
  constructor
  · intro h
    exact ⟨h.length_le, (List.suffix_iff_eq_drop.1 h).symm⟩
  · rintro ⟨_, h⟩
    rw [← h]; exact List.drop_suffix _ _
set_option maxRecDepth 10000 in
set_option maxHeartbeats 4000000 in
theorem atM_spec (t w : List UInt8) (ht : t.length ≤ 60) (hw : w.length ≤ 60) (e : Nat) (he : e ≤ t.length) (i : Int) (hi : i = (e : Int) - w.length) : Dm.Spec Try.prog 25 [.sl 1 (u8s t), .sl 1 (u8s w), iv .i64 i] (· = .v (.bool (decide (w <:+ t.take e)))) := by
  refine spec_of_vc mixed Try.func25 c25 (by rw [show Try.f25.ntmps = _ from Try.ntmps25]; simp) ?_
  unfold m25 r25
  have hte : (t.take e).length = e := by rw [List.length_take]; omega
  by_cases h : w.length ≤ e
  · obtain ⟨n, hn⟩ : ∃ n : Nat, i = n := ⟨i.toNat, by omega⟩
    subst hn
    have hne : n = e - w.length := by omega
    have hnw : n + w.length = e := by omega
    have hby := bytes_spec ((t.take e).drop n) w (by rw [List.length_drop, hte]; omega)
    have hd : decide ((t.take e).drop n = w) = decide (w <:+ t.take e) := by
      rw [decide_eq_decide, suf_at, hte, hne]
      exact ⟨fun h1 => ⟨h, h1⟩, fun h1 => h1.2⟩
    rw [hd] at hby
    repeat' first | ((first | refine Br.dec ?_ ?_ | refine Br.eqi ?_ ?_) <;> intro h <;> try (exfalso; omega)) | (simp (disch := first | omega | (simp only [vlen]; first | done | omega)) only [hnw, vmg, ↓vAq, vBq, ↓reduceIte, Nat.reduceBEq, Nat.reduceEqDiff, Nat.reduceLT, Nat.reduceLeDiff, Nat.reduceAdd, Nat.reduceMul, Nat.reduceSub, reduceCtorEq, Int.reduceToNat]) | (refine Br.mk ?_ ?_ <;> intro h) | (refine BrN.mk (fun h => ?_) ?_) | (refine AltVC.mk ?_ ?_)
    refine CallVC.eq hby ?_
    repeat' first | ((first | refine Br.dec ?_ ?_ | refine Br.eqi ?_ ?_) <;> intro h <;> try (exfalso; omega)) | (simp (disch := first | omega | (simp only [vlen]; first | done | omega)) only [hnw, vmg, ↓vAq, vBq, ↓reduceIte, Nat.reduceBEq, Nat.reduceEqDiff, Nat.reduceLT, Nat.reduceLeDiff, Nat.reduceAdd, Nat.reduceMul, Nat.reduceSub, reduceCtorEq, Int.reduceToNat]) | (refine Br.mk ?_ ?_ <;> intro h) | (refine BrN.mk (fun h => ?_) ?_) | (refine AltVC.mk ?_ ?_)
    exact fin_mk rfl
  · have hd : decide (w <:+ t.take e) = false := decide_eq_false fun hs => by
      have := hs.length_le
      omega
    rw [hd]
    repeat' first | ((first | refine Br.dec ?_ ?_ | refine Br.eqi ?_ ?_) <;> intro h <;> try (exfalso; omega)) | (simp (disch := first | omega | (simp only [vlen]; first | done | omega)) only [vmg, ↓vAq, vBq, ↓reduceIte, Nat.reduceBEq, Nat.reduceEqDiff, Nat.reduceLT, Nat.reduceLeDiff, Nat.reduceAdd, Nat.reduceMul, Nat.reduceSub, reduceCtorEq, Int.reduceToNat]) | (refine Br.mk ?_ ?_ <;> intro h) | (refine BrN.mk (fun h => ?_) ?_) | (refine AltVC.mk ?_ ?_)
    exact fin_mk rfl
theorem hit_all {W : List (List UInt8)} {t : List UInt8} (h0 : ∀ w, w ∈ W → 0 < w.length) : (List.range (t.length + 1)).flatMap (fun e => (endN W t e).map fun x => (e, x)) = hitL W t t.length := by
  rw [List.range_succ_eq_map, List.flatMap_cons, List.flatMap_map]
  have e0 : endN W t 0 = [] := by
    unfold endN
    refine nums_none fun x hx => decide_eq_false fun hs => ?_
    have h1 : 0 < (W.getD x []).length := h0 _ (getD_mem' (l := W) hx)
    have h2 := hs.length_le
    rw [List.take_zero, List.length_nil] at h2
    omega
  rw [e0]; rfl
def hitQ (W : List (List UInt8)) (t : List UInt8) (e q : Nat) : List (Nat × Nat) := (nums_ q fun x => decide (W.getD x [] <:+ t.take e)).map fun x => (e, x)
def hitP (W : List (List UInt8)) (t : List UInt8) (e : Nat) : List (Nat × Nat) := (List.range e).flatMap fun e => (endN W t e).map fun x => (e, x)
theorem hitP_succ {W : List (List UInt8)} {t : List UInt8} {e : Nat} : hitP W t (e + 1) = hitP W t e ++ hitQ W t e W.length := by
  unfold hitP hitQ endN
  rw [List.range_succ, List.flatMap_append, List.flatMap_cons, List.flatMap_nil, List.append_nil]
theorem hitQ_len {W : List (List UInt8)} {t : List UInt8} {e q : Nat} : (hitQ W t e q).length ≤ q := by
  unfold hitQ; rw [List.length_map]; exact nums_len
theorem hitP_len {W : List (List UInt8)} {t : List UInt8} (hW : W.length ≤ 8) : ∀ {k : Nat}, (hitP W t k).length ≤ 8 * k
  | 0 => by simp [hitP]
  | k + 1 => by
    have h1 := @hitP_len W t hW k
    have h2 := @hitQ_len W t k W.length
    rw [hitP_succ, List.length_append]; omega
theorem hit_app0 {L : List (Nat × Nat)} {a b : Nat} : tbl hitD L ++ [[D.v (.int .i64 (a : Int)), D.v (.int .i64 (b : Int))]] = tbl hitD (L ++ [(a, b)]) := by rw [tbl_app]; rfl
set_option maxRecDepth 10000 in
set_option maxHeartbeats 4000000 in
theorem hits_spec (W : List (List UInt8)) (hW : W.length ≤ 8) (hw : ∀ w, w ∈ W → 0 < w.length ∧ w.length ≤ 60) (t : List UInt8) (ht : t.length ≤ 60) : Dm.Spec Try.prog 20 [.sl 1 (rows u8s W), .sl 1 (u8s t)] (· = .sl 2 (tbl hitD (hitL W t t.length))) := by
  refine spec_of_vc mixed Try.func20 c20 (by rw [show Try.f20.ntmps = _ from Try.ntmps20]; simp) ?_
  unfold m20 r20
  repeat' first | ((first | refine Br.dec ?_ ?_ | refine Br.eqi ?_ ?_) <;> intro h <;> try (exfalso; omega)) | (simp (disch := first | omega | (simp only [vlen]; first | done | omega)) only [hit_app0, vmg, ↓vAq, vBq, ↓reduceIte, Nat.reduceBEq, Nat.reduceEqDiff, Nat.reduceLT, Nat.reduceLeDiff, Nat.reduceAdd, Nat.reduceMul, Nat.reduceSub, reduceCtorEq, Int.reduceToNat]) | (refine Br.mk ?_ ?_ <;> intro h) | (refine BrN.mk (fun h => ?_) ?_) | (refine AltVC.mk ?_ ?_)
  refine LoopVC.mk (X := Nat) (fun e => [(5, .ref 1 2 0 (hitP W t e).length), (6, iv .i64 e)]) (fun e => [(1, ⟨2, tbl hitD (hitP W t e), true, false, .arr⟩)]) (fun e => t.length + 1 - e) (fun e => e ≤ t.length + 1) 0 (Nat.zero_le _) ?_ ?_
  · (simp (disch := first | omega | (simp only [vlen]; first | done | omega)) only [Fits_u, Fits_m, Fits_nil, List.length_append, vmg, ↓vAq, vBq, ↓reduceIte, Nat.reduceBEq, Nat.reduceEqDiff, Nat.reduceLT, Nat.reduceLeDiff, Nat.reduceAdd, Nat.reduceMul, Nat.reduceSub, reduceCtorEq, Int.reduceToNat] <;> (repeat' first | rfl | apply And.intro))
    all_goals first | rfl | trace_state
  · intro e he
    have hPl := @hitP_len W t hW e
    by_cases hel : e ≤ t.length
    · repeat' first | ((first | refine Br.dec ?_ ?_ | refine Br.eqi ?_ ?_) <;> intro h <;> try (exfalso; omega)) | (simp (disch := first | omega | (simp only [vlen]; first | done | omega)) only [hit_app0, vmg, ↓vAq, vBq, ↓reduceIte, Nat.reduceBEq, Nat.reduceEqDiff, Nat.reduceLT, Nat.reduceLeDiff, Nat.reduceAdd, Nat.reduceMul, Nat.reduceSub, reduceCtorEq, Int.reduceToNat]) | (refine Br.mk ?_ ?_ <;> intro h) | (refine BrN.mk (fun h => ?_) ?_) | (refine AltVC.mk ?_ ?_)
      refine LoopVC.mk (X := Nat) (fun q => [(5, .ref 1 2 0 (hitP W t e ++ hitQ W t e q).length), (17, iv .i64 q)]) (fun q => [(1, ⟨2, tbl hitD (hitP W t e ++ hitQ W t e q), true, false, .arr⟩)]) (fun q => W.length - q) (fun q => q ≤ W.length) 0 (Nat.zero_le _) ?_ ?_
      · have e0 : hitQ W t e 0 = [] := rfl
        (simp (disch := first | omega | (simp only [vlen]; first | done | omega)) only [Fits_u, Fits_m, Fits_nil, List.length_append, e0, List.append_nil, vmg, ↓vAq, vBq, ↓reduceIte, Nat.reduceBEq, Nat.reduceEqDiff, Nat.reduceLT, Nat.reduceLeDiff, Nat.reduceAdd, Nat.reduceMul, Nat.reduceSub, reduceCtorEq, Int.reduceToNat] <;> (repeat' first | rfl | apply And.intro))
        all_goals first | rfl | trace_state
      · intro q hq
        have hQl := @hitQ_len W t e q
        have hl1 : (hitP W t e ++ hitQ W t e q).length = (hitP W t e).length + (hitQ W t e q).length := List.length_append
        by_cases hql : q < W.length
        · obtain ⟨w, hwe⟩ : ∃ w, W.getD q default = w := ⟨_, rfl⟩
          have hwl := hw w (by rw [← hwe]; exact getD_mem' hql)
          have hat := atM_spec t w ht hwl.2 e hel _ rfl
          by_cases hs : w <:+ t.take e
          · have hy : hitQ W t e (q + 1) = hitQ W t e q ++ [(e, q)] := by
              unfold hitQ
              rw [nums_y (decide_eq_true (by rw [show W.getD q [] = w from hwe]; exact hs)), List.map_append]; rfl
            have hl2 : (hitP W t e ++ hitQ W t e (q + 1)).length = (hitP W t e).length + (hitQ W t e q).length + 1 := by rw [hy, List.length_append, List.length_append]; rfl
            rw [decide_eq_true hs] at hat
            repeat' first | ((first | refine Br.dec ?_ ?_ | refine Br.eqi ?_ ?_) <;> intro h <;> try (exfalso; omega)) | (simp (disch := first | omega | (simp only [vlen]; first | done | omega)) only [hwe, hl1, vmg, ↓vAq, vBq, ↓reduceIte, Nat.reduceBEq, Nat.reduceEqDiff, Nat.reduceLT, Nat.reduceLeDiff, Nat.reduceAdd, Nat.reduceMul, Nat.reduceSub, reduceCtorEq, Int.reduceToNat]) | (refine Br.mk ?_ ?_ <;> intro h) | (refine BrN.mk (fun h => ?_) ?_) | (refine AltVC.mk ?_ ?_)
            refine CallVC.eq hat ?_
            repeat' first | ((first | refine Br.dec ?_ ?_ | refine Br.eqi ?_ ?_) <;> intro h <;> try (exfalso; omega)) | (simp (disch := first | omega | (simp only [vlen]; first | done | omega)) only [hwe, hl1, hit_app0, vmg, ↓vAq, vBq, ↓reduceIte, Nat.reduceBEq, Nat.reduceEqDiff, Nat.reduceLT, Nat.reduceLeDiff, Nat.reduceAdd, Nat.reduceMul, Nat.reduceSub, reduceCtorEq, Int.reduceToNat]) | (refine Br.mk ?_ ?_ <;> intro h) | (refine BrN.mk (fun h => ?_) ?_) | (refine AltVC.mk ?_ ?_)
            refine loopK.mk (q + 1) (by simp (disch := first | omega | (simp only [vlen]; first | done | omega)) only [vmg, ↓vAq, vBq, ↓reduceIte, Nat.reduceBEq, Nat.reduceEqDiff, Nat.reduceLT, Nat.reduceLeDiff, Nat.reduceAdd, Nat.reduceMul, Nat.reduceSub, reduceCtorEq, Int.reduceToNat]) (by show q + 1 ≤ _; omega) (by show W.length - (q + 1) < W.length - q; omega) ?_
            (simp (disch := first | omega | (simp only [vlen]; first | done | omega)) only [Fits_u, Fits_m, Fits_nil, List.length_append, hl1, hl2, hit_app0, vmg, ↓vAq, vBq, ↓reduceIte, Nat.reduceBEq, Nat.reduceEqDiff, Nat.reduceLT, Nat.reduceLeDiff, Nat.reduceAdd, Nat.reduceMul, Nat.reduceSub, reduceCtorEq, Int.reduceToNat] <;> (repeat' first | rfl | apply And.intro))
            all_goals first | (rw [hy, ← List.append_assoc]; done) | rfl | trace_state
          · have hy : hitQ W t e (q + 1) = hitQ W t e q := by
              unfold hitQ
              rw [nums_n (decide_eq_false (by rw [show W.getD q [] = w from hwe]; exact hs))]
            rw [decide_eq_false hs] at hat
            repeat' first | ((first | refine Br.dec ?_ ?_ | refine Br.eqi ?_ ?_) <;> intro h <;> try (exfalso; omega)) | (simp (disch := first | omega | (simp only [vlen]; first | done | omega)) only [hwe, hl1, vmg, ↓vAq, vBq, ↓reduceIte, Nat.reduceBEq, Nat.reduceEqDiff, Nat.reduceLT, Nat.reduceLeDiff, Nat.reduceAdd, Nat.reduceMul, Nat.reduceSub, reduceCtorEq, Int.reduceToNat]) | (refine Br.mk ?_ ?_ <;> intro h) | (refine BrN.mk (fun h => ?_) ?_) | (refine AltVC.mk ?_ ?_)
            refine CallVC.eq hat ?_
            repeat' first | ((first | refine Br.dec ?_ ?_ | refine Br.eqi ?_ ?_) <;> intro h <;> try (exfalso; omega)) | (simp (disch := first | omega | (simp only [vlen]; first | done | omega)) only [hwe, hl1, vmg, ↓vAq, vBq, ↓reduceIte, Nat.reduceBEq, Nat.reduceEqDiff, Nat.reduceLT, Nat.reduceLeDiff, Nat.reduceAdd, Nat.reduceMul, Nat.reduceSub, reduceCtorEq, Int.reduceToNat]) | (refine Br.mk ?_ ?_ <;> intro h) | (refine BrN.mk (fun h => ?_) ?_) | (refine AltVC.mk ?_ ?_)
            refine loopK.mk (q + 1) (by simp (disch := first | omega | (simp only [vlen]; first | done | omega)) only [vmg, ↓vAq, vBq, ↓reduceIte, Nat.reduceBEq, Nat.reduceEqDiff, Nat.reduceLT, Nat.reduceLeDiff, Nat.reduceAdd, Nat.reduceMul, Nat.reduceSub, reduceCtorEq, Int.reduceToNat]) (by show q + 1 ≤ _; omega) (by show W.length - (q + 1) < W.length - q; omega) ?_
            rw [hy]
            (simp (disch := first | omega | (simp only [vlen]; first | done | omega)) only [Fits_u, Fits_m, Fits_nil, List.length_append, hl1, vmg, ↓vAq, vBq, ↓reduceIte, Nat.reduceBEq, Nat.reduceEqDiff, Nat.reduceLT, Nat.reduceLeDiff, Nat.reduceAdd, Nat.reduceMul, Nat.reduceSub, reduceCtorEq, Int.reduceToNat] <;> (repeat' first | rfl | apply And.intro))
            all_goals first | rfl | trace_state
        · have hqe : q = W.length := by omega
          subst hqe
          rw [← hitP_succ]
          repeat' first | ((first | refine Br.dec ?_ ?_ | refine Br.eqi ?_ ?_) <;> intro h <;> try (exfalso; omega)) | (simp (disch := first | omega | (simp only [vlen]; first | done | omega)) only [vmg, ↓vAq, vBq, ↓reduceIte, Nat.reduceBEq, Nat.reduceEqDiff, Nat.reduceLT, Nat.reduceLeDiff, Nat.reduceAdd, Nat.reduceMul, Nat.reduceSub, reduceCtorEq, Int.reduceToNat]) | (refine Br.mk ?_ ?_ <;> intro h) | (refine BrN.mk (fun h => ?_) ?_) | (refine AltVC.mk ?_ ?_)
          refine loopK.mk (e + 1) (by simp (disch := first | omega | (simp only [vlen]; first | done | omega)) only [vmg, ↓vAq, vBq, ↓reduceIte, Nat.reduceBEq, Nat.reduceEqDiff, Nat.reduceLT, Nat.reduceLeDiff, Nat.reduceAdd, Nat.reduceMul, Nat.reduceSub, reduceCtorEq, Int.reduceToNat]) (by show e + 1 ≤ _; omega) (by show t.length + 1 - (e + 1) < t.length + 1 - e; omega) ?_
          (simp (disch := first | omega | (simp only [vlen]; first | done | omega)) only [Fits_u, Fits_m, Fits_nil, List.length_append, vmg, ↓vAq, vBq, ↓reduceIte, Nat.reduceBEq, Nat.reduceEqDiff, Nat.reduceLT, Nat.reduceLeDiff, Nat.reduceAdd, Nat.reduceMul, Nat.reduceSub, reduceCtorEq, Int.reduceToNat] <;> (repeat' first | rfl | apply And.intro))
          all_goals first | rfl | trace_state
    · have hee : e = t.length + 1 := by omega
      have hall : hitP W t e = hitL W t t.length := by rw [hee]; exact hit_all fun w h => (hw w h).1
      rw [hall]
      repeat' first | ((first | refine Br.dec ?_ ?_ | refine Br.eqi ?_ ?_) <;> intro h <;> try (exfalso; omega)) | (simp (disch := first | omega | (simp only [vlen]; first | done | omega)) only [vmg, ↓vAq, vBq, ↓reduceIte, Nat.reduceBEq, Nat.reduceEqDiff, Nat.reduceLT, Nat.reduceLeDiff, Nat.reduceAdd, Nat.reduceMul, Nat.reduceSub, reduceCtorEq, Int.reduceToNat]) | (refine Br.mk ?_ ?_ <;> intro h) | (refine BrN.mk (fun h => ?_) ?_) | (refine AltVC.mk ?_ ?_)
      exact fin_mk rfl
theorem hitD_eq {p : Nat × Nat} : hitD p = [iv .i64 p.1, iv .i64 p.2] := (rfl)
set_option maxRecDepth 10000 in
set_option maxHeartbeats 4000000 in
theorem hitsSame_spec (a : List (Nat × Nat)) (ha : a.length ≤ 4294967296) (hb : ∀ p, p ∈ a → p.1 ≤ 4294967296 ∧ p.2 ≤ 4294967296) : Dm.Spec Try.prog 19 [.sl 2 (tbl hitD a), .sl 2 (tbl hitD a)] (· = .v (.bool true)) := by
  refine spec_of_vc mixed Try.func19 c19 (by rw [show Try.f19.ntmps = _ from Try.ntmps19]; simp) ?_
  unfold m19 r19
  repeat' first | ((first | refine Br.dec ?_ ?_ | refine Br.eqi ?_ ?_) <;> intro h <;> try (exfalso; omega)) | (simp (disch := first | omega | (simp only [vlen]; first | done | omega)) only [vmg, ↓vAq, vBq, ↓reduceIte, Nat.reduceBEq, Nat.reduceEqDiff, Nat.reduceLT, Nat.reduceLeDiff, Nat.reduceAdd, Nat.reduceMul, Nat.reduceSub, reduceCtorEq, Int.reduceToNat]) | (refine Br.mk ?_ ?_ <;> intro h) | (refine BrN.mk (fun h => ?_) ?_) | (refine AltVC.mk ?_ ?_)
  refine LoopVC.mk (X := Nat) (fun i => [(5, iv .i64 i)]) (fun _ => []) (fun i => a.length - i) (fun i => i ≤ a.length) 0 (Nat.zero_le _) ?_ ?_
  · (simp (disch := first | omega | (simp only [vlen]; first | done | omega)) only [Fits_u, Fits_m, Fits_nil, List.length_append, vmg, ↓vAq, vBq, ↓reduceIte, Nat.reduceBEq, Nat.reduceEqDiff, Nat.reduceLT, Nat.reduceLeDiff, Nat.reduceAdd, Nat.reduceMul, Nat.reduceSub, reduceCtorEq, Int.reduceToNat] <;> (repeat' first | rfl | apply And.intro))
  · intro i hi
    by_cases hil : i < a.length
    · obtain ⟨b1, b2⟩ := hb _ (getD_mem' hil)
      repeat' first | ((first | refine Br.dec ?_ ?_ | refine Br.eqi ?_ ?_) <;> intro h <;> try (exfalso; omega)) | (simp (disch := first | omega | (simp only [vlen]; first | done | omega)) only [hitD_eq, vmg, ↓vAq, vBq, ↓reduceIte, Nat.reduceBEq, Nat.reduceEqDiff, Nat.reduceLT, Nat.reduceLeDiff, Nat.reduceAdd, Nat.reduceMul, Nat.reduceSub, reduceCtorEq, Int.reduceToNat]) | (refine Br.mk ?_ ?_ <;> intro h) | (refine BrN.mk (fun h => ?_) ?_) | (refine AltVC.mk ?_ ?_)
      refine BrE.mk (fun _ => ?_) (fun h => absurd trivial h)
      repeat' first | ((first | refine Br.dec ?_ ?_ | refine Br.eqi ?_ ?_) <;> intro h <;> try (exfalso; omega)) | (simp (disch := first | omega | (simp only [vlen]; first | done | omega)) only [vmg, ↓vAq, vBq, ↓reduceIte, Nat.reduceBEq, Nat.reduceEqDiff, Nat.reduceLT, Nat.reduceLeDiff, Nat.reduceAdd, Nat.reduceMul, Nat.reduceSub, reduceCtorEq, Int.reduceToNat]) | (refine Br.mk ?_ ?_ <;> intro h) | (refine BrN.mk (fun h => ?_) ?_) | (refine AltVC.mk ?_ ?_)
      exact loopK.mk (i + 1) (by simp (disch := first | omega | (simp only [vlen]; first | done | omega)) only [vmg, ↓vAq, vBq, ↓reduceIte, Nat.reduceBEq, Nat.reduceEqDiff, Nat.reduceLT, Nat.reduceLeDiff, Nat.reduceAdd, Nat.reduceMul, Nat.reduceSub, reduceCtorEq, Int.reduceToNat]) (by show i + 1 ≤ a.length; omega) (by show a.length - (i + 1) < a.length - i; omega) (by (simp (disch := first | omega | (simp only [vlen]; first | done | omega)) only [Fits_u, Fits_m, Fits_nil, List.length_append, vmg, ↓vAq, vBq, ↓reduceIte, Nat.reduceBEq, Nat.reduceEqDiff, Nat.reduceLT, Nat.reduceLeDiff, Nat.reduceAdd, Nat.reduceMul, Nat.reduceSub, reduceCtorEq, Int.reduceToNat] <;> (repeat' first | rfl | apply And.intro)))
    · repeat' first | ((first | refine Br.dec ?_ ?_ | refine Br.eqi ?_ ?_) <;> intro h <;> try (exfalso; omega)) | (simp (disch := first | omega | (simp only [vlen]; first | done | omega)) only [vmg, ↓vAq, vBq, ↓reduceIte, Nat.reduceBEq, Nat.reduceEqDiff, Nat.reduceLT, Nat.reduceLeDiff, Nat.reduceAdd, Nat.reduceMul, Nat.reduceSub, reduceCtorEq, Int.reduceToNat]) | (refine Br.mk ?_ ?_ <;> intro h) | (refine BrN.mk (fun h => ?_) ?_) | (refine AltVC.mk ?_ ?_)
      exact fin_mk rfl
theorem hit_mem {W : List (List UInt8)} {t : List UInt8} {k : Nat} {p : Nat × Nat} (h : p ∈ hitL W t k) : p.1 ≤ k ∧ p.2 ≤ W.length := by
  obtain ⟨j, hj, h2⟩ := List.mem_flatMap.1 h
  obtain ⟨x, hx, rfl⟩ := List.mem_map.1 h2
  have h3 := List.mem_range.1 hj
  have h4 := (nums_mem.1 hx).1
  exact ⟨by show j + 1 ≤ k; omega, by show x ≤ W.length; omega⟩
set_option maxRecDepth 10000 in
set_option maxHeartbeats 4000000 in
theorem manyFinds_spec (W : List (List UInt8)) (kW : okL (okL fun _ => True) W) (t : List UInt8) (kt : okL (fun _ => True) t) (hW : W.length * 24 ≤ 140737488351232) : Dm.Spec Try.prog 7 [.sl 1 (rows u8s W), .sl 1 (u8s t)] (· = .v (.bool true)) := by
  refine spec_of_vc mixed Try.func7 c7 (by rw [show Try.f7.ntmps = _ from Try.ntmps7]; simp) ?_
  unfold m7 r7
  have hw : ∀ w, w ∈ W → w.length ≤ 9223372036854775807 := fun w h => maxLen_le (kW.2 w h).1
  have ht := maxLen_le kt.1
  have hf := find_spec W hW hw t ht
  have hr := rcheck_spec W (by omega) hw t ht
  by_cases hm : mnC W t = 0
  · obtain ⟨h8, h60, hwl⟩ := mnC_ok hm
    rw [hm] at hr
    have hll := @hitL_len W t h8 t.length
    repeat' first | ((first | refine Br.dec ?_ ?_ | refine Br.eqi ?_ ?_) <;> intro h <;> try (exfalso; omega)) | (simp (disch := first | omega | (simp only [vlen]; first | done | omega)) only [vmg, ↓vAq, vBq, ↓reduceIte, Nat.reduceBEq, Nat.reduceEqDiff, Nat.reduceLT, Nat.reduceLeDiff, Nat.reduceAdd, Nat.reduceMul, Nat.reduceSub, reduceCtorEq, Int.reduceToNat]) | (refine Br.mk ?_ ?_ <;> intro h) | (refine BrN.mk (fun h => ?_) ?_) | (refine AltVC.mk ?_ ?_)
    refine CallVC.mk hf ?_
    rintro _ (⟨h, rfl⟩ | ⟨_, rfl⟩)
    · exact absurd hm h
    repeat' first | ((first | refine Br.dec ?_ ?_ | refine Br.eqi ?_ ?_) <;> intro h <;> try (exfalso; omega)) | (simp (disch := first | omega | (simp only [vlen]; first | done | omega)) only [vmg, ↓vAq, vBq, ↓reduceIte, Nat.reduceBEq, Nat.reduceEqDiff, Nat.reduceLT, Nat.reduceLeDiff, Nat.reduceAdd, Nat.reduceMul, Nat.reduceSub, reduceCtorEq, Int.reduceToNat]) | (refine Br.mk ?_ ?_ <;> intro h) | (refine BrN.mk (fun h => ?_) ?_) | (refine AltVC.mk ?_ ?_)
    refine CallVC.eq hr ?_
    repeat' first | ((first | refine Br.dec ?_ ?_ | refine Br.eqi ?_ ?_) <;> intro h <;> try (exfalso; omega)) | (simp (disch := first | omega | (simp only [vlen]; first | done | omega)) only [vmg, ↓vAq, vBq, ↓reduceIte, Nat.reduceBEq, Nat.reduceEqDiff, Nat.reduceLT, Nat.reduceLeDiff, Nat.reduceAdd, Nat.reduceMul, Nat.reduceSub, reduceCtorEq, Int.reduceToNat]) | (refine Br.mk ?_ ?_ <;> intro h) | (refine BrN.mk (fun h => ?_) ?_) | (refine AltVC.mk ?_ ?_)
    refine CallVC.eq (hits_spec W h8 hwl t h60) ?_
    repeat' first | ((first | refine Br.dec ?_ ?_ | refine Br.eqi ?_ ?_) <;> intro h <;> try (exfalso; omega)) | (simp (disch := first | omega | (simp only [vlen]; first | done | omega)) only [vmg, ↓vAq, vBq, ↓reduceIte, Nat.reduceBEq, Nat.reduceEqDiff, Nat.reduceLT, Nat.reduceLeDiff, Nat.reduceAdd, Nat.reduceMul, Nat.reduceSub, reduceCtorEq, Int.reduceToNat]) | (refine Br.mk ?_ ?_ <;> intro h) | (refine BrN.mk (fun h => ?_) ?_) | (refine AltVC.mk ?_ ?_)
    refine CallVC.eq (hitsSame_spec (hitL W t t.length) (by omega) fun p hp => by have := hit_mem hp; omega) ?_
    repeat' first | ((first | refine Br.dec ?_ ?_ | refine Br.eqi ?_ ?_) <;> intro h <;> try (exfalso; omega)) | (simp (disch := first | omega | (simp only [vlen]; first | done | omega)) only [vmg, ↓vAq, vBq, ↓reduceIte, Nat.reduceBEq, Nat.reduceEqDiff, Nat.reduceLT, Nat.reduceLeDiff, Nat.reduceAdd, Nat.reduceMul, Nat.reduceSub, reduceCtorEq, Int.reduceToNat]) | (refine Br.mk ?_ ?_ <;> intro h) | (refine BrN.mk (fun h => ?_) ?_) | (refine AltVC.mk ?_ ?_)
    exact fin_mk rfl
  · repeat' first | ((first | refine Br.dec ?_ ?_ | refine Br.eqi ?_ ?_) <;> intro h <;> try (exfalso; omega)) | (simp (disch := first | omega | (simp only [vlen]; first | done | omega)) only [vmg, ↓vAq, vBq, ↓reduceIte, Nat.reduceBEq, Nat.reduceEqDiff, Nat.reduceLT, Nat.reduceLeDiff, Nat.reduceAdd, Nat.reduceMul, Nat.reduceSub, reduceCtorEq, Int.reduceToNat]) | (refine Br.mk ?_ ?_ <;> intro h) | (refine BrN.mk (fun h => ?_) ?_) | (refine AltVC.mk ?_ ?_)
    refine CallVC.mk hf ?_
    rintro _ (⟨h, rfl⟩ | ⟨h, rfl⟩)
    rotate_left
    · exact absurd h hm
    repeat' first | ((first | refine Br.dec ?_ ?_ | refine Br.eqi ?_ ?_) <;> intro h <;> try (exfalso; omega)) | (simp (disch := first | omega | (simp only [vlen]; first | done | omega)) only [vmg, ↓vAq, vBq, ↓reduceIte, Nat.reduceBEq, Nat.reduceEqDiff, Nat.reduceLT, Nat.reduceLeDiff, Nat.reduceAdd, Nat.reduceMul, Nat.reduceSub, reduceCtorEq, Int.reduceToNat]) | (refine Br.mk ?_ ?_ <;> intro h) | (refine BrN.mk (fun h => ?_) ?_) | (refine AltVC.mk ?_ ?_)
    refine CallVC.eq hr ?_
    repeat' first | ((first | refine Br.dec ?_ ?_ | refine Br.eqi ?_ ?_) <;> intro h <;> try (exfalso; omega)) | (simp (disch := first | omega | (simp only [vlen]; first | done | omega)) only [vmg, ↓vAq, vBq, ↓reduceIte, Nat.reduceBEq, Nat.reduceEqDiff, Nat.reduceLT, Nat.reduceLeDiff, Nat.reduceAdd, Nat.reduceMul, Nat.reduceSub, reduceCtorEq, Int.reduceToNat]) | (refine Br.mk ?_ ?_ <;> intro h) | (refine BrN.mk (fun h => ?_) ?_) | (refine AltVC.mk ?_ ?_)
    all_goals exact fin_mk (vbEq (by simp))
end Go.Proofs.Ytdcdldfleeilnaa
