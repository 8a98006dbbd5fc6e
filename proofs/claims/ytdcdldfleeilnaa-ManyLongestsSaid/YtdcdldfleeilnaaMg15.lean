/-
 Texts of this claim, one behind another.
-/
import Derived.Test.YtdcdldfleeilnaaAcW
import Derived.Test.YtdcdldfleeilnaaMg13
import Derived.Test.YtdcdldfleeilnaaMg11
namespace Go.Proofs.Ytdcdldfleeilnaa
open Go.Dm
set_option linter.unusedSimpArgs false
set_option linter.unnecessarySimpa false
set_option linter.unusedVariables false
set_option linter.defProp false
theorem take_byte {w : List UInt8} {k : Nat} (h : k < w.length) : w.take (k + 1) = w.take k ++ [w.getD k 0] := take_succ_getD h 0
theorem natI_snoc {l : List Nat} {i : Nat} : natI l ++ [(i : Int)] = natI (l ++ [i]) := by simp [natI]
theorem ap_get {l m : List (List D)} {i : Nat} {d : List D} (h : i < l.length) : (l ++ m).getD i d = l.getD i d := getD_app_l h
theorem ap_set {l m : List (List D)} {i : Nat} {x : List D} (h : i < l.length) : (l ++ m).set i x = l.set i x ++ m := List.set_append_left _ _ h
theorem ap_getn {l : List (List D)} {n : Nat} {x d : List D} (h : n = l.length) : (l ++ [x]).getD n d = x := by subst h; exact getD_app_e
theorem ap_setn {l : List (List D)} {n : Nat} {x y : List D} (h : n = l.length) : (l ++ [x]).set n y = l ++ [y] := by subst h; rw [List.set_append_right _ _ (Nat.le_refl _)]; simp
theorem nd_app2 {T : List Nd} {lo : Nat} : tbl ndD T ++ [[.omp (.map [.u8] false false) 2 [], D.v (.int .i64 0), D.v (.int .i64 ((lo : Int) + 1)), .own false 1 []]] = tbl ndD (T ++ [⟨[], 0, lo + 1, []⟩]) := by rw [tbl_app]; rfl
theorem kill_app {l m : List (List D)} {τ : Nat} : List.map (fun e => List.map (D.kill τ) e) (l ++ m) = List.map (fun e => List.map (D.kill τ) e) l ++ List.map (fun e => List.map (D.kill τ) e) m := List.map_append
theorem natI_take1 {l : List Nat} {i : Nat} : (natI (l ++ [i])).take (l.length + 1) = natI (l ++ [i]) := List.take_of_length_le (by simp [natI])
def vav := And.intro vaw <| And.intro @natI_take1 <| And.intro @ap_get <| And.intro @ap_set <| And.intro @ap_getn <| And.intro @ap_setn <| And.intro @nd_app2 <| And.intro @kill_app @natI_snoc
def BdR (W : List (List UInt8)) (d : D) (o : List (Option Ob)) : Prop := ∃ Ss T, d = .ref 2 4 0 T.length ∧ o = [none, none, some ⟨4, tbl ndD T, true, true, .fix⟩] ∧ T.length ≤ 100000 ∧ AC W Ss T
set_option maxRecDepth 10000 in
set_option maxHeartbeats 4000000 in
theorem build_spec (W : List (List UInt8)) (hW : W.length ≤ 8) (hWl : ∀ w, w ∈ W → w.length ≤ 1000) : Dm.SpecH Try.prog 27 [.sl 1 (rows u8s W)] [] (BdR W) := by
  refine specH_of_vc mixed Try.func27 c27 (by rw [show Try.f27.ntmps = _ from Try.ntmps27]; simp) ?_
  unfold m27 r27
  repeat' first | ((first | refine Br.dec ?_ ?_ | refine Br.eqi ?_ ?_) <;> intro h <;> try (exfalso; omega)) | (simp (disch := first | omega | (simp only [vlen]; first | done | omega)) only [vav, ↓vAq, vBq, ↓reduceIte, Nat.reduceBEq, Nat.reduceEqDiff, Nat.reduceLT, Nat.reduceLeDiff, Nat.reduceAdd, Nat.reduceMul, Nat.reduceSub, reduceCtorEq, Int.reduceToNat]) | (refine Br.mk ?_ ?_ <;> intro h) | (refine BrN.mk (fun h => ?_) ?_) | (refine AltVC.mk ?_ ?_)
  refine LoopVC.nlo 2 0 3 1 ?_
  repeat' first | ((first | refine Br.dec ?_ ?_ | refine Br.eqi ?_ ?_) <;> intro h <;> try (exfalso; omega)) | (simp (disch := first | omega | (simp only [vlen]; first | done | omega)) only [vav, ↓vAq, vBq, ↓reduceIte, Nat.reduceBEq, Nat.reduceEqDiff, Nat.reduceLT, Nat.reduceLeDiff, Nat.reduceAdd, Nat.reduceMul, Nat.reduceSub, reduceCtorEq, Int.reduceToNat]) | (refine Br.mk ?_ ?_ <;> intro h) | (refine BrN.mk (fun h => ?_) ?_) | (refine AltVC.mk ?_ ?_)
  refine LoopVC.fold 1 2 0 0 true ?_
  repeat' first | ((first | refine Br.dec ?_ ?_ | refine Br.eqi ?_ ?_) <;> intro h <;> try (exfalso; omega)) | (simp (disch := first | omega | (simp only [vlen]; first | done | omega)) only [vav, ↓vAq, vBq, ↓reduceIte, Nat.reduceBEq, Nat.reduceEqDiff, Nat.reduceLT, Nat.reduceLeDiff, Nat.reduceAdd, Nat.reduceMul, Nat.reduceSub, reduceCtorEq, Int.reduceToNat]) | (refine Br.mk ?_ ?_ <;> intro h) | (refine BrN.mk (fun h => ?_) ?_) | (refine AltVC.mk ?_ ?_)
  have e0 : [[D.omp acK 2 [], D.v (.int .i64 0), D.v (.int .i64 0), .own false 1 []]] = tbl ndD [⟨[], 0, 0, []⟩] := rfl
  refine LoopVC.mk (X := Nat × List (List UInt8) × List Nd) (fun x => [(3, .ref 2 4 0 x.2.2.length), (16, iv .i64 x.1)]) (fun x => [(2, ⟨4, tbl ndD x.2.2, true, true, .arr⟩)]) (fun x => W.length - x.1) (fun x => x.1 ≤ W.length ∧ BI W x.2.1 x.2.2 x.1 [] ∧ x.2.2.length ≤ 1 + x.1 * 1000) (0, [[]], [⟨[], 0, 0, []⟩]) ⟨Nat.zero_le _, .init, by show 1 ≤ 1 + 0 * 1000; omega⟩ ?_ ?_
  · (simp (disch := first | omega | (simp only [vlen]; first | done | omega)) only [Fits_u, Fits_m, Fits_nil, List.length_append, e0, vav, ↓vAq, vBq, ↓reduceIte, Nat.reduceBEq, Nat.reduceEqDiff, Nat.reduceLT, Nat.reduceLeDiff, Nat.reduceAdd, Nat.reduceMul, Nat.reduceSub, reduceCtorEq, Int.reduceToNat] <;> (repeat' first | rfl | apply And.intro))
    all_goals first | rfl | trace_state
  · rintro ⟨i, Ss, T⟩ ⟨hi, hB, hTl⟩
    simp only at hi hB hTl ⊢
    by_cases hil : i < W.length
    · obtain ⟨w, hw⟩ : ∃ w, W.getD i default = w := ⟨_, rfl⟩
      have hw' : W.getD i [] = w := hw
      have hwl := hWl w (by rw [← hw]; exact getD_mem' hil)
      repeat' first | ((first | refine Br.dec ?_ ?_ | refine Br.eqi ?_ ?_) <;> intro h <;> try (exfalso; omega)) | (simp (disch := first | omega | (simp only [vlen]; first | done | omega)) only [hw, vav, ↓vAq, vBq, ↓reduceIte, Nat.reduceBEq, Nat.reduceEqDiff, Nat.reduceLT, Nat.reduceLeDiff, Nat.reduceAdd, Nat.reduceMul, Nat.reduceSub, reduceCtorEq, Int.reduceToNat]) | (refine Br.mk ?_ ?_ <;> intro h) | (refine BrN.mk (fun h => ?_) ?_) | (refine AltVC.mk ?_ ?_)
      refine LoopVC.mk (X := Nat × Nat × List (List UInt8) × List Nd) (fun x => [(3, .ref 2 4 0 x.2.2.2.length), (6, iv .i64 x.2.1), (23, iv .i64 x.1)]) (fun x => [(2, ⟨4, tbl ndD x.2.2.2, true, true, .arr⟩)]) (fun x => w.length - x.1) (fun x => x.1 ≤ w.length ∧ BI W x.2.2.1 x.2.2.2 i (w.take x.1) ∧ x.2.1 < x.2.2.2.length ∧ x.2.2.1.getD x.2.1 [] = w.take x.1 ∧ x.2.2.2.length ≤ 1 + i * 1000 + x.1) (0, 0, Ss, T) ⟨Nat.zero_le _, hB, by show 0 < T.length; rw [hB.tri.len]; exact hB.tri.pos, hB.tri.zero, by show T.length ≤ 1 + i * 1000 + 0; omega⟩ ?_ ?_
      · (simp (disch := first | omega | (simp only [vlen]; first | done | omega)) only [Fits_u, Fits_m, Fits_nil, List.length_append, vav, ↓vAq, vBq, ↓reduceIte, Nat.reduceBEq, Nat.reduceEqDiff, Nat.reduceLT, Nat.reduceLeDiff, Nat.reduceAdd, Nat.reduceMul, Nat.reduceSub, reduceCtorEq, Int.reduceToNat] <;> (repeat' first | rfl | apply And.intro))
        all_goals first | rfl | trace_state
      · rintro ⟨k, a, Ss, T⟩ ⟨hk, hB, hal, hau, hTl⟩
        simp only at hk hB hal hau hTl ⊢
        have hlo := hB.tri.lo a hal
        have hSl : (Ss.getD a []).length ≤ 1000 := by rw [hau, List.length_take]; omega
        by_cases hkl : k < w.length
        · obtain ⟨c, hc⟩ : ∃ c, w.getD k 0 = c := ⟨_, rfl⟩
          have htk := take_byte hkl
          rw [hc] at htk
          have hnx := hB.tri.nx a hal c
          have hc8 : c.toNat < 256 := c.toNat_lt
          repeat' first | ((first | refine Br.dec ?_ ?_ | refine Br.eqi ?_ ?_) <;> intro h <;> try (exfalso; omega)) | (simp (disch := first | omega | (simp only [vlen]; first | done | omega)) only [hw, hc, vav, ↓vAq, vBq, ↓reduceIte, Nat.reduceBEq, Nat.reduceEqDiff, Nat.reduceLT, Nat.reduceLeDiff, Nat.reduceAdd, Nat.reduceMul, Nat.reduceSub, reduceCtorEq, Int.reduceToNat]) | (refine Br.mk ?_ ?_ <;> intro h) | (refine BrN.mk (fun h => ?_) ?_) | (refine AltVC.mk ?_ ?_)
          refine BrK.mk (fun r hr he => ?_) (fun hno => ?_)
          · obtain ⟨b, hb, hRr⟩ := ac_in hr he
            obtain ⟨b1, b2⟩ := (hnx b).1 hb
            rw [hau] at b2
            have hB2 := hB.found (c := c) (by rw [← b2]; exact str_mem (by rw [← hB.tri.len]; exact b1))
            rw [← htk] at hB2 b2
            repeat' first | ((first | refine Br.dec ?_ ?_ | refine Br.eqi ?_ ?_) <;> intro h <;> try (exfalso; omega)) | (simp (disch := first | omega | (simp only [vlen]; first | done | omega)) only [hRr, vav, ↓vAq, vBq, ↓reduceIte, Nat.reduceBEq, Nat.reduceEqDiff, Nat.reduceLT, Nat.reduceLeDiff, Nat.reduceAdd, Nat.reduceMul, Nat.reduceSub, reduceCtorEq, Int.reduceToNat]) | (refine Br.mk ?_ ?_ <;> intro h) | (refine BrN.mk (fun h => ?_) ?_) | (refine AltVC.mk ?_ ?_)
            refine loopK.fold 3 2 a 0 true ?_
            repeat' first | ((first | refine Br.dec ?_ ?_ | refine Br.eqi ?_ ?_) <;> intro h <;> try (exfalso; omega)) | (simp (disch := first | omega | (simp only [vlen]; first | done | omega)) only [vav, ↓vAq, vBq, ↓reduceIte, Nat.reduceBEq, Nat.reduceEqDiff, Nat.reduceLT, Nat.reduceLeDiff, Nat.reduceAdd, Nat.reduceMul, Nat.reduceSub, reduceCtorEq, Int.reduceToNat]) | (refine Br.mk ?_ ?_ <;> intro h) | (refine BrN.mk (fun h => ?_) ?_) | (refine AltVC.mk ?_ ?_)
            refine loopK.mk (k + 1, b, Ss, T) (by simp (disch := first | omega | (simp only [vlen]; first | done | omega)) only [vav, ↓vAq, vBq, ↓reduceIte, Nat.reduceBEq, Nat.reduceEqDiff, Nat.reduceLT, Nat.reduceLeDiff, Nat.reduceAdd, Nat.reduceMul, Nat.reduceSub, reduceCtorEq, Int.reduceToNat]) ⟨by show k + 1 ≤ w.length; omega, hB2, b1, b2, by show T.length ≤ 1 + i * 1000 + (k + 1); omega⟩ (by show w.length - (k + 1) < w.length - k; omega) ?_
            (simp (disch := first | omega | (simp only [vlen]; first | done | omega)) only [Fits_u, Fits_m, Fits_nil, List.length_append, vav, ↓vAq, vBq, ↓reduceIte, Nat.reduceBEq, Nat.reduceEqDiff, Nat.reduceLT, Nat.reduceLeDiff, Nat.reduceAdd, Nat.reduceMul, Nat.reduceSub, reduceCtorEq, Int.reduceToNat] <;> (repeat' first | rfl | apply And.intro))
            all_goals first | rfl | trace_state
          · have hno2 := ac_out hno
            have hnm : w.take k ++ [c] ∉ Ss := fun hm => by
              obtain ⟨b, b1, b2⟩ := mem_str hm
              exact hno2 ⟨b, (hnx b).2 ⟨by rw [hB.tri.len]; exact b1, by rw [hau]; exact b2⟩⟩
            have hB2 := hB.add hnm hal hau
            rw [← htk] at hB2
            repeat' first | ((first | refine Br.dec ?_ ?_ | refine Br.eqi ?_ ?_) <;> intro h <;> try (exfalso; omega)) | (simp (disch := first | omega | (simp only [vlen]; first | done | omega)) only [vav, ↓vAq, vBq, ↓reduceIte, Nat.reduceBEq, Nat.reduceEqDiff, Nat.reduceLT, Nat.reduceLeDiff, Nat.reduceAdd, Nat.reduceMul, Nat.reduceSub, reduceCtorEq, Int.reduceToNat]) | (refine Br.mk ?_ ?_ <;> intro h) | (refine BrN.mk (fun h => ?_) ?_) | (refine AltVC.mk ?_ ?_)
            refine BrK.mk (fun r hr he => ?_) (fun _ => ?_)
            · obtain ⟨b, hb, _⟩ := ac_in hr he
              exact absurd ⟨b, hb⟩ hno2
            repeat' first | ((first | refine Br.dec ?_ ?_ | refine Br.eqi ?_ ?_) <;> intro h <;> try (exfalso; omega)) | (simp (disch := first | omega | (simp only [vlen]; first | done | omega)) only [vav, ↓vAq, vBq, ↓reduceIte, Nat.reduceBEq, Nat.reduceEqDiff, Nat.reduceLT, Nat.reduceLeDiff, Nat.reduceAdd, Nat.reduceMul, Nat.reduceSub, reduceCtorEq, Int.reduceToNat]) | (refine Br.mk ?_ ?_ <;> intro h) | (refine BrN.mk (fun h => ?_) ?_) | (refine AltVC.mk ?_ ?_)
            refine loopK.fold 3 2 a 0 false ?_
            repeat' first | ((first | refine Br.dec ?_ ?_ | refine Br.eqi ?_ ?_) <;> intro h <;> try (exfalso; omega)) | (simp (disch := first | omega | (simp only [vlen]; first | done | omega)) only [vav, ↓vAq, vBq, ↓reduceIte, Nat.reduceBEq, Nat.reduceEqDiff, Nat.reduceLT, Nat.reduceLeDiff, Nat.reduceAdd, Nat.reduceMul, Nat.reduceSub, reduceCtorEq, Int.reduceToNat]) | (refine Br.mk ?_ ?_ <;> intro h) | (refine BrN.mk (fun h => ?_) ?_) | (refine AltVC.mk ?_ ?_)
            refine loopK.nlo 2 T.length 3 1 ?_
            repeat' first | ((first | refine Br.dec ?_ ?_ | refine Br.eqi ?_ ?_) <;> intro h <;> try (exfalso; omega)) | (simp (disch := first | omega | (simp only [vlen]; first | done | omega)) only [vav, ↓vAq, vBq, ↓reduceIte, Nat.reduceBEq, Nat.reduceEqDiff, Nat.reduceLT, Nat.reduceLeDiff, Nat.reduceAdd, Nat.reduceMul, Nat.reduceSub, reduceCtorEq, Int.reduceToNat]) | (refine Br.mk ?_ ?_ <;> intro h) | (refine BrN.mk (fun h => ?_) ?_) | (refine AltVC.mk ?_ ?_)
            refine loopK.fold 4 2 T.length 0 true ?_
            repeat' first | ((first | refine Br.dec ?_ ?_ | refine Br.eqi ?_ ?_) <;> intro h <;> try (exfalso; omega)) | (simp (disch := first | omega | (simp only [vlen]; first | done | omega)) only [vav, ↓vAq, vBq, ↓reduceIte, Nat.reduceBEq, Nat.reduceEqDiff, Nat.reduceLT, Nat.reduceLeDiff, Nat.reduceAdd, Nat.reduceMul, Nat.reduceSub, reduceCtorEq, Int.reduceToNat]) | (refine Br.mk ?_ ?_ <;> intro h) | (refine BrN.mk (fun h => ?_) ?_) | (refine AltVC.mk ?_ ?_)
            refine loopK.mk (k + 1, T.length, Ss ++ [w.take (k + 1)], addN T a c) (by simp (disch := first | omega | (simp only [vlen]; first | done | omega)) only [vav, ↓vAq, vBq, ↓reduceIte, Nat.reduceBEq, Nat.reduceEqDiff, Nat.reduceLT, Nat.reduceLeDiff, Nat.reduceAdd, Nat.reduceMul, Nat.reduceSub, reduceCtorEq, Int.reduceToNat]) ⟨by show k + 1 ≤ w.length; omega, hB2, by show T.length < (addN T a c).length; rw [addN_len]; omega, by rw [hB.tri.len]; exact getD_app_e, by show (addN T a c).length ≤ 1 + i * 1000 + (k + 1); rw [addN_len]; omega⟩ (by show w.length - (k + 1) < w.length - k; omega) ?_
            have hal2 := @addN_len T a c
            unfold addN at hal2 ⊢
            (simp (disch := first | omega | (simp only [vlen]; first | done | omega)) only [Fits_u, Fits_m, Fits_nil, List.length_append, hal2, vav, ↓vAq, vBq, ↓reduceIte, Nat.reduceBEq, Nat.reduceEqDiff, Nat.reduceLT, Nat.reduceLeDiff, Nat.reduceAdd, Nat.reduceMul, Nat.reduceSub, reduceCtorEq, Int.reduceToNat] <;> (repeat' first | rfl | apply And.intro))
            all_goals first | rfl | trace_state
        · have hke : k = w.length := by omega
          subst hke
          rw [List.take_length] at hB hau
          rw [← hw'] at hB hau
          have hB2 := hB.fin hal hau
          have hwsa : (T.getD a default).ws.length ≤ 8 := by rw [hB.wss a hal]; exact Nat.le_trans nums_len (by omega)
          repeat' first | ((first | refine Br.dec ?_ ?_ | refine Br.eqi ?_ ?_) <;> intro h <;> try (exfalso; omega)) | (simp (disch := first | omega | (simp only [vlen]; first | done | omega)) only [vav, ↓vAq, vBq, ↓reduceIte, Nat.reduceBEq, Nat.reduceEqDiff, Nat.reduceLT, Nat.reduceLeDiff, Nat.reduceAdd, Nat.reduceMul, Nat.reduceSub, reduceCtorEq, Int.reduceToNat]) | (refine Br.mk ?_ ?_ <;> intro h) | (refine BrN.mk (fun h => ?_) ?_) | (refine AltVC.mk ?_ ?_)
          refine loopK.fold 3 2 a 3 true ?_
          have hll : ((T.getD a default).ws ++ [i]).length = (T.getD a default).ws.length + 1 := by simp
          repeat' first | ((first | refine Br.dec ?_ ?_ | refine Br.eqi ?_ ?_) <;> intro h <;> try (exfalso; omega)) | (simp (disch := first | omega | (simp only [vlen]; first | done | omega)) only [hll, vav, ↓vAq, vBq, ↓reduceIte, Nat.reduceBEq, Nat.reduceEqDiff, Nat.reduceLT, Nat.reduceLeDiff, Nat.reduceAdd, Nat.reduceMul, Nat.reduceSub, reduceCtorEq, Int.reduceToNat]) | (refine Br.mk ?_ ?_ <;> intro h) | (refine BrN.mk (fun h => ?_) ?_) | (refine AltVC.mk ?_ ?_)
          refine loopK.mk (i + 1, Ss, endW T a i) (by simp (disch := first | omega | (simp only [vlen]; first | done | omega)) only [vav, ↓vAq, vBq, ↓reduceIte, Nat.reduceBEq, Nat.reduceEqDiff, Nat.reduceLT, Nat.reduceLeDiff, Nat.reduceAdd, Nat.reduceMul, Nat.reduceSub, reduceCtorEq, Int.reduceToNat]) ⟨by show i + 1 ≤ W.length; omega, hB2, by show (endW T a i).length ≤ _; rw [endW_len]; omega⟩ (by show W.length - (i + 1) < W.length - i; omega) ?_
          unfold endW
          (simp (disch := first | omega | (simp only [vlen]; first | done | omega)) only [Fits_u, Fits_m, Fits_nil, List.length_append, hll, vav, ↓vAq, vBq, ↓reduceIte, Nat.reduceBEq, Nat.reduceEqDiff, Nat.reduceLT, Nat.reduceLeDiff, Nat.reduceAdd, Nat.reduceMul, Nat.reduceSub, reduceCtorEq, Int.reduceToNat] <;> (repeat' first | rfl | apply And.intro))
          all_goals first | rfl | trace_state
    · have hie : i = W.length := by omega
      subst hie
      have hLi := link_spec W Ss T (.init (u := []) hB) (by omega) (by omega) (fun w hw => hWl w hw)
      repeat' first | ((first | refine Br.dec ?_ ?_ | refine Br.eqi ?_ ?_) <;> intro h <;> try (exfalso; omega)) | (simp (disch := first | omega | (simp only [vlen]; first | done | omega)) only [vav, ↓vAq, vBq, ↓reduceIte, Nat.reduceBEq, Nat.reduceEqDiff, Nat.reduceLT, Nat.reduceLeDiff, Nat.reduceAdd, Nat.reduceMul, Nat.reduceSub, reduceCtorEq, Int.reduceToNat]) | (refine Br.mk ?_ ?_ <;> intro h) | (refine BrN.mk (fun h => ?_) ?_) | (refine AltVC.mk ?_ ?_)
      refine CallVC.stay 2 ?_
      have hpos : 0 < T.length := by rw [hB.tri.len]; exact hB.tri.pos
      repeat' first | ((first | refine Br.dec ?_ ?_ | refine Br.eqi ?_ ?_) <;> intro h <;> try (exfalso; omega)) | (simp (disch := first | omega | (simp only [vlen]; first | done | omega)) only [vav, ↓vAq, vBq, ↓reduceIte, Nat.reduceBEq, Nat.reduceEqDiff, Nat.reduceLT, Nat.reduceLeDiff, Nat.reduceAdd, Nat.reduceMul, Nat.reduceSub, reduceCtorEq, Int.reduceToNat]) | (refine Br.mk ?_ ?_ <;> intro h) | (refine BrN.mk (fun h => ?_) ?_) | (refine AltVC.mk ?_ ?_)
      refine CallVC.lendE [2] [.ref 0 4 0 T.length] (ntO T) hLi (by simp) (by rfl) (by unfold ntO; (simp (disch := first | omega | (simp only [vlen]; first | done | omega)) only [vle0, vav, ↓vAq, vBq, ↓reduceIte, Nat.reduceBEq, Nat.reduceEqDiff, Nat.reduceLT, Nat.reduceLeDiff, Nat.reduceAdd, Nat.reduceMul, Nat.reduceSub, reduceCtorEq, Int.reduceToNat] <;> (repeat' first | rfl | apply And.intro))) ?_
      rintro _ _ ⟨rfl, T', rfl, hTl2, hAC⟩
      unfold ntO
      repeat' first | ((first | refine Br.dec ?_ ?_ | refine Br.eqi ?_ ?_) <;> intro h <;> try (exfalso; omega)) | (simp (disch := first | omega | (simp only [vlen]; first | done | omega)) only [vav, ↓vAq, vBq, ↓reduceIte, Nat.reduceBEq, Nat.reduceEqDiff, Nat.reduceLT, Nat.reduceLeDiff, Nat.reduceAdd, Nat.reduceMul, Nat.reduceSub, reduceCtorEq, Int.reduceToNat]) | (refine Br.mk ?_ ?_ <;> intro h) | (refine BrN.mk (fun h => ?_) ?_) | (refine AltVC.mk ?_ ?_)
      rw [← hTl2]
      exact finH_mk [none, none, some ⟨4, tbl ndD T', true, true, .fix⟩] (by simp) (by simp (disch := first | omega | (simp only [vlen]; first | done | omega)) only [vav, ↓vAq, vBq, ↓reduceIte, Nat.reduceBEq, Nat.reduceEqDiff, Nat.reduceLT, Nat.reduceLeDiff, Nat.reduceAdd, Nat.reduceMul, Nat.reduceSub, reduceCtorEq, Int.reduceToNat]) (by simp (disch := first | omega | (simp only [vlen]; first | done | omega)) only [vav, ↓vAq, vBq, ↓reduceIte, Nat.reduceBEq, Nat.reduceEqDiff, Nat.reduceLT, Nat.reduceLeDiff, Nat.reduceAdd, Nat.reduceMul, Nat.reduceSub, reduceCtorEq, Int.reduceToNat]) ⟨Ss, T', by simp (disch := first | omega | (simp only [vlen]; first | done | omega)) only [vav, ↓vAq, vBq, ↓reduceIte, Nat.reduceBEq, Nat.reduceEqDiff, Nat.reduceLT, Nat.reduceLeDiff, Nat.reduceAdd, Nat.reduceMul, Nat.reduceSub, reduceCtorEq, Int.reduceToNat], rfl, by omega, hAC⟩
end Go.Proofs.Ytdcdldfleeilnaa

namespace Go.Proofs.Ytdcdldfleeilnaa
open Go.Dm
set_option linter.unusedSimpArgs false
set_option linter.unnecessarySimpa false
set_option linter.unusedVariables false
set_option linter.defProp false
theorem anyH {α : Type} [Inhabited α] {l : List α} {p : α → Bool} {i : Nat} (h : i < l.length) (hp : p (l.getD i default) = true) : l.any p = true := List.any_eq_true.2 ⟨_, getD_mem' h, hp⟩
theorem anyN {α : Type} [Inhabited α] {l : List α} {p : α → Bool} {i : Nat} (hi : l.length ≤ i) (h : ∀ j, j < i → p (l.getD j default) = false) : l.any p = false := by
  rw [List.any_eq_false]
  intro x hx
  obtain ⟨j, hj, e⟩ := List.getElem_of_mem hx
  have := h j (by omega)
  rw [show l.getD j default = x by simp [List.getD, hj, e]] at this
  rw [this]; simp
def tooL (w : List UInt8) : Bool := decide (60 < w.length)
def nilW (w : List UInt8) : Bool := decide (w.length = 0)
def mnC (W : List (List UInt8)) (t : List UInt8) : Int := if 8 < W.length ∨ 60 < t.length ∨ W.any tooL = true then 1 else if W.any nilW = true then 2 else 0
theorem mnC_ok {W : List (List UInt8)} {t : List UInt8} (h : mnC W t = 0) : W.length ≤ 8 ∧ t.length ≤ 60 ∧ ∀ w, w ∈ W → 0 < w.length ∧ w.length ≤ 60 := by
  unfold mnC at h
  split at h
  · omega
  · next h1 =>
    split at h
    · omega
    · next h2 =>
      rw [not_or, not_or] at h1
      refine ⟨by omega, by omega, fun w hw => ?_⟩
      rw [Bool.not_eq_true, List.any_eq_false] at h2
      have a1 := h1.2.2
      rw [Bool.not_eq_true, List.any_eq_false] at a1
      have b1 := a1 w hw
      have b2 := h2 w hw
      unfold tooL at b1
      unfold nilW at b2
      simp at b1 b2
      exact ⟨List.length_pos_iff.2 b2, b1⟩
set_option maxRecDepth 10000 in
set_option maxHeartbeats 4000000 in
theorem largeM_spec (l : List (List UInt8)) (hl : l.length ≤ 9223372036854775807) (hw : ∀ w, w ∈ l → w.length ≤ 9223372036854775807) : Dm.Spec Try.prog 21 [.sl 1 (rows u8s l)] (· = iv .i64 (if l.any tooL = true then 1 else 0)) := by
  refine spec_of_vc mixed Try.func21 c21 (by rw [show Try.f21.ntmps = _ from Try.ntmps21]; simp) ?_
  unfold m21 r21
  repeat' first | ((first | refine Br.dec ?_ ?_ | refine Br.eqi ?_ ?_) <;> intro h <;> try (exfalso; omega)) | (simp (disch := first | omega | (simp only [vlen]; first | done | omega)) only [vav, ↓vAq, vBq, ↓reduceIte, Nat.reduceBEq, Nat.reduceEqDiff, Nat.reduceLT, Nat.reduceLeDiff, Nat.reduceAdd, Nat.reduceMul, Nat.reduceSub, reduceCtorEq, Int.reduceToNat]) | (refine Br.mk ?_ ?_ <;> intro h) | (refine BrN.mk (fun h => ?_) ?_) | (refine AltVC.mk ?_ ?_)
  refine LoopVC.mk (X := Nat) (fun i => [(7, iv .i64 i)]) (fun _ => []) (fun i => l.length - i) (fun i => i ≤ l.length ∧ ∀ j, j < i → tooL (l.getD j default) = false) 0 ⟨by omega, by omega⟩ ?_ ?_
  · (simp (disch := first | omega | (simp only [vlen]; first | done | omega)) only [Fits_u, Fits_m, Fits_nil, List.length_append, vav, ↓vAq, vBq, ↓reduceIte, Nat.reduceBEq, Nat.reduceEqDiff, Nat.reduceLT, Nat.reduceLeDiff, Nat.reduceAdd, Nat.reduceMul, Nat.reduceSub, reduceCtorEq, Int.reduceToNat] <;> (repeat' first | rfl | apply And.intro))
  · rintro i ⟨hi, hn⟩
    by_cases hil : i < l.length
    · have hwl := hw _ (getD_mem' hil)
      by_cases h60 : 60 < (l.getD i default).length
      · repeat' first | ((first | refine Br.dec ?_ ?_ | refine Br.eqi ?_ ?_) <;> intro h <;> try (exfalso; omega)) | (simp (disch := first | omega | (simp only [vlen]; first | done | omega)) only [vav, ↓vAq, vBq, ↓reduceIte, Nat.reduceBEq, Nat.reduceEqDiff, Nat.reduceLT, Nat.reduceLeDiff, Nat.reduceAdd, Nat.reduceMul, Nat.reduceSub, reduceCtorEq, Int.reduceToNat]) | (refine Br.mk ?_ ?_ <;> intro h) | (refine BrN.mk (fun h => ?_) ?_) | (refine AltVC.mk ?_ ?_)
        exact fin_mk (by rw [if_pos (anyH (p := tooL) (i := i) hil (decide_eq_true h60))])
      · repeat' first | ((first | refine Br.dec ?_ ?_ | refine Br.eqi ?_ ?_) <;> intro h <;> try (exfalso; omega)) | (simp (disch := first | omega | (simp only [vlen]; first | done | omega)) only [vav, ↓vAq, vBq, ↓reduceIte, Nat.reduceBEq, Nat.reduceEqDiff, Nat.reduceLT, Nat.reduceLeDiff, Nat.reduceAdd, Nat.reduceMul, Nat.reduceSub, reduceCtorEq, Int.reduceToNat]) | (refine Br.mk ?_ ?_ <;> intro h) | (refine BrN.mk (fun h => ?_) ?_) | (refine AltVC.mk ?_ ?_)
        refine loopK.mk (i + 1) (by simp (disch := first | omega | (simp only [vlen]; first | done | omega)) only [vav, ↓vAq, vBq, ↓reduceIte, Nat.reduceBEq, Nat.reduceEqDiff, Nat.reduceLT, Nat.reduceLeDiff, Nat.reduceAdd, Nat.reduceMul, Nat.reduceSub, reduceCtorEq, Int.reduceToNat]) ⟨by omega, fun j hj => ?_⟩ (by omega) (by (simp (disch := first | omega | (simp only [vlen]; first | done | omega)) only [Fits_u, Fits_m, Fits_nil, List.length_append, vav, ↓vAq, vBq, ↓reduceIte, Nat.reduceBEq, Nat.reduceEqDiff, Nat.reduceLT, Nat.reduceLeDiff, Nat.reduceAdd, Nat.reduceMul, Nat.reduceSub, reduceCtorEq, Int.reduceToNat] <;> (repeat' first | rfl | apply And.intro)))
        by_cases e : j = i
        · subst e; exact decide_eq_false h60
        · exact hn j (by omega)
    · repeat' first | ((first | refine Br.dec ?_ ?_ | refine Br.eqi ?_ ?_) <;> intro h <;> try (exfalso; omega)) | (simp (disch := first | omega | (simp only [vlen]; first | done | omega)) only [vav, ↓vAq, vBq, ↓reduceIte, Nat.reduceBEq, Nat.reduceEqDiff, Nat.reduceLT, Nat.reduceLeDiff, Nat.reduceAdd, Nat.reduceMul, Nat.reduceSub, reduceCtorEq, Int.reduceToNat]) | (refine Br.mk ?_ ?_ <;> intro h) | (refine BrN.mk (fun h => ?_) ?_) | (refine AltVC.mk ?_ ?_)
      exact fin_mk (by rw [if_neg (by rw [anyN (i := i) (by omega) hn]; simp)])
set_option maxRecDepth 10000 in
set_option maxHeartbeats 4000000 in
theorem emptyC_spec (w : List UInt8) (hw : w.length ≤ 9223372036854775807) : Dm.Spec Try.prog 35 [.sl 1 (u8s w)] (· = .v (.bool (nilW w))) := by
  refine spec_of_vc mixed Try.func35 c35 (by rw [show Try.f35.ntmps = _ from Try.ntmps35]; simp) ?_
  unfold m35 r35
  unfold nilW
  repeat' first | ((first | refine Br.dec ?_ ?_ | refine Br.eqi ?_ ?_) <;> intro h <;> try (exfalso; omega)) | (simp (disch := first | omega | (simp only [vlen]; first | done | omega)) only [vav, ↓vAq, vBq, ↓reduceIte, Nat.reduceBEq, Nat.reduceEqDiff, Nat.reduceLT, Nat.reduceLeDiff, Nat.reduceAdd, Nat.reduceMul, Nat.reduceSub, reduceCtorEq, Int.reduceToNat]) | (refine Br.mk ?_ ?_ <;> intro h) | (refine BrN.mk (fun h => ?_) ?_) | (refine AltVC.mk ?_ ?_)
  exact fin_mk (vbEq (by rw [Bool.eq_iff_iff]; simp))
set_option maxRecDepth 10000 in
set_option maxHeartbeats 4000000 in
theorem cloneB_words (l : List (List UInt8)) (h : l.length * 24 ≤ 140737488351232) : Dm.SpecH Try.prog 33 [.sl 1 (rows u8s l)] [] (fun d o => d = .ref 1 1 0 l.length ∧ o = [none, some ⟨1, rows u8s l, true, false, .arr⟩]) := by
  refine specH_of_vc mixed Try.func33 c33 (by rw [show Try.f33.ntmps = _ from Try.ntmps33]; simp) ?_
  unfold m33 r33
  repeat' first | ((first | refine Br.dec ?_ ?_ | refine Br.eqi ?_ ?_) <;> intro h <;> try (exfalso; omega)) | (simp (disch := first | omega | (simp only [vlen]; first | done | omega)) only [vav, ↓vAq, vBq, ↓reduceIte, Nat.reduceBEq, Nat.reduceEqDiff, Nat.reduceLT, Nat.reduceLeDiff, Nat.reduceAdd, Nat.reduceMul, Nat.reduceSub, reduceCtorEq, Int.reduceToNat]) | (refine Br.mk ?_ ?_ <;> intro h) | (refine BrN.mk (fun h => ?_) ?_) | (refine AltVC.mk ?_ ?_)
  · have : l = [] := List.eq_nil_of_length_eq_zero (by assumption)
    subst this
    exact finH_mk [none, some ⟨1, [], true, false, .arr⟩] (by simp) (by simp (disch := first | omega | (simp only [vlen]; first | done | omega)) only [vav, ↓vAq, vBq, ↓reduceIte, Nat.reduceBEq, Nat.reduceEqDiff, Nat.reduceLT, Nat.reduceLeDiff, Nat.reduceAdd, Nat.reduceMul, Nat.reduceSub, reduceCtorEq, Int.reduceToNat]) (by simp (disch := first | omega | (simp only [vlen]; first | done | omega)) only [vav, ↓vAq, vBq, ↓reduceIte, Nat.reduceBEq, Nat.reduceEqDiff, Nat.reduceLT, Nat.reduceLeDiff, Nat.reduceAdd, Nat.reduceMul, Nat.reduceSub, reduceCtorEq, Int.reduceToNat]) ⟨by simp (disch := first | omega | (simp only [vlen]; first | done | omega)) only [vav, ↓vAq, vBq, ↓reduceIte, Nat.reduceBEq, Nat.reduceEqDiff, Nat.reduceLT, Nat.reduceLeDiff, Nat.reduceAdd, Nat.reduceMul, Nat.reduceSub, reduceCtorEq, Int.reduceToNat], rfl⟩
  · exact finH_mk [none, some ⟨1, rows u8s l, true, false, .arr⟩] (by simp) (by simp (disch := first | omega | (simp only [vlen]; first | done | omega)) only [vav, ↓vAq, vBq, ↓reduceIte, Nat.reduceBEq, Nat.reduceEqDiff, Nat.reduceLT, Nat.reduceLeDiff, Nat.reduceAdd, Nat.reduceMul, Nat.reduceSub, reduceCtorEq, Int.reduceToNat]) (by simp (disch := first | omega | (simp only [vlen]; first | done | omega)) only [vav, ↓vAq, vBq, ↓reduceIte, Nat.reduceBEq, Nat.reduceEqDiff, Nat.reduceLT, Nat.reduceLeDiff, Nat.reduceAdd, Nat.reduceMul, Nat.reduceSub, reduceCtorEq, Int.reduceToNat]) ⟨by simp (disch := first | omega | (simp only [vlen]; first | done | omega)) only [vav, ↓vAq, vBq, ↓reduceIte, Nat.reduceBEq, Nat.reduceEqDiff, Nat.reduceLT, Nat.reduceLeDiff, Nat.reduceAdd, Nat.reduceMul, Nat.reduceSub, reduceCtorEq, Int.reduceToNat], rfl⟩
set_option maxRecDepth 10000 in
set_option maxHeartbeats 4000000 in
theorem mcheck_spec (W : List (List UInt8)) (hW : W.length * 24 ≤ 140737488351232) (hw : ∀ w, w ∈ W → w.length ≤ 9223372036854775807) (t : List UInt8) (ht : t.length ≤ 9223372036854775807) : Dm.Spec Try.prog 26 [.sl 1 (rows u8s W), .sl 1 (u8s t)] (· = iv .i64 (mnC W t)) := by
  refine spec_of_vc mixed Try.func26 c26 (by rw [show Try.f26.ntmps = _ from Try.ntmps26]; simp) ?_
  unfold m26 r26
  have hla := largeM_spec (W ++ [t]) (by simp; omega) (fun w h => by
    rcases List.mem_append.1 h with h | h
    · exact hw w h
    · rw [List.mem_singleton.1 h]; exact ht)
  have hrw : rows u8s W ++ [[.sl 1 (u8s t)]] = rows u8s (W ++ [t]) := by rw [rows_app]
  have hll : (W ++ [t]).length = W.length + 1 := by simp
  have hcf := conF_words W nilW 35 [] (by omega) (by rfl) (fun w h => emptyC_spec w (hw w h))
  repeat' first | ((first | refine Br.dec ?_ ?_ | refine Br.eqi ?_ ?_) <;> intro h <;> try (exfalso; omega)) | (simp (disch := first | omega | (simp only [vlen]; first | done | omega)) only [vav, ↓vAq, vBq, ↓reduceIte, Nat.reduceBEq, Nat.reduceEqDiff, Nat.reduceLT, Nat.reduceLeDiff, Nat.reduceAdd, Nat.reduceMul, Nat.reduceSub, reduceCtorEq, Int.reduceToNat]) | (refine Br.mk ?_ ?_ <;> intro h) | (refine BrN.mk (fun h => ?_) ?_) | (refine AltVC.mk ?_ ?_)
  refine CallVC.lendE [] [.sl 1 (rows u8s W)] [] (cloneB_words W (by omega)) (by simp) (by rfl) (by (simp (disch := first | omega | (simp only [vlen]; first | done | omega)) only [vle0, vav, ↓vAq, vBq, ↓reduceIte, Nat.reduceBEq, Nat.reduceEqDiff, Nat.reduceLT, Nat.reduceLeDiff, Nat.reduceAdd, Nat.reduceMul, Nat.reduceSub, reduceCtorEq, Int.reduceToNat] <;> (repeat' first | rfl | apply And.intro))) ?_
  rintro _ _ ⟨rfl, rfl⟩
  repeat' first | ((first | refine Br.dec ?_ ?_ | refine Br.eqi ?_ ?_) <;> intro h <;> try (exfalso; omega)) | (simp (disch := first | omega | (simp only [vlen]; first | done | omega)) only [hrw, hll, vav, ↓vAq, vBq, ↓reduceIte, Nat.reduceBEq, Nat.reduceEqDiff, Nat.reduceLT, Nat.reduceLeDiff, Nat.reduceAdd, Nat.reduceMul, Nat.reduceSub, reduceCtorEq, Int.reduceToNat]) | (refine Br.mk ?_ ?_ <;> intro h) | (refine BrN.mk (fun h => ?_) ?_) | (refine AltVC.mk ?_ ?_)
  have hany : (W ++ [t]).any tooL = (W.any tooL || tooL t) := by rw [List.any_append, List.any_cons, List.any_nil, Bool.or_false]
  cases hA : (W ++ [t]).any tooL with
  | true =>
    have hm : mnC W t = 1 := by
      rw [hany, Bool.or_eq_true] at hA
      unfold mnC
      rcases hA with h | h
      · rw [if_pos (.inr (.inr h))]
      · rw [if_pos (.inr (.inl (of_decide_eq_true h)))]
    rw [hA, if_pos rfl] at hla
    refine CallVC.eqo hla plain_v ?_
    repeat' first | ((first | refine Br.dec ?_ ?_ | refine Br.eqi ?_ ?_) <;> intro h <;> try (exfalso; omega)) | (simp (disch := first | omega | (simp only [vlen]; first | done | omega)) only [hrw, hll, vav, ↓vAq, vBq, ↓reduceIte, Nat.reduceBEq, Nat.reduceEqDiff, Nat.reduceLT, Nat.reduceLeDiff, Nat.reduceAdd, Nat.reduceMul, Nat.reduceSub, reduceCtorEq, Int.reduceToNat]) | (refine Br.mk ?_ ?_ <;> intro h) | (refine BrN.mk (fun h => ?_) ?_) | (refine AltVC.mk ?_ ?_)
    exact fin_mk (by rw [hm])
  | false =>
    have hno : W.any tooL = false ∧ ¬ 60 < t.length := by
      rw [hany, Bool.or_eq_false_iff] at hA
      exact ⟨hA.1, of_decide_eq_false hA.2⟩
    rw [hA, if_neg (by decide)] at hla
    refine CallVC.eqo hla plain_v ?_
    by_cases h8 : 8 < W.length
    · have hm : mnC W t = 1 := by unfold mnC; rw [if_pos (.inl h8)]
      repeat' first | ((first | refine Br.dec ?_ ?_ | refine Br.eqi ?_ ?_) <;> intro h <;> try (exfalso; omega)) | (simp (disch := first | omega | (simp only [vlen]; first | done | omega)) only [hrw, hll, vav, ↓vAq, vBq, ↓reduceIte, Nat.reduceBEq, Nat.reduceEqDiff, Nat.reduceLT, Nat.reduceLeDiff, Nat.reduceAdd, Nat.reduceMul, Nat.reduceSub, reduceCtorEq, Int.reduceToNat]) | (refine Br.mk ?_ ?_ <;> intro h) | (refine BrN.mk (fun h => ?_) ?_) | (refine AltVC.mk ?_ ?_)
      exact fin_mk (by rw [hm])
    · have hm : mnC W t = if W.any nilW = true then 2 else 0 := by
        unfold mnC
        rw [if_neg]
        rintro (h | h | h)
        · exact h8 h
        · exact hno.2 h
        · rw [hno.1] at h; cases h
      cases hB : W.any nilW with
      | true =>
        rw [hB] at hcf
        rw [hB, if_pos rfl] at hm
        repeat' first | ((first | refine Br.dec ?_ ?_ | refine Br.eqi ?_ ?_) <;> intro h <;> try (exfalso; omega)) | (simp (disch := first | omega | (simp only [vlen]; first | done | omega)) only [hrw, hll, vav, ↓vAq, vBq, ↓reduceIte, Nat.reduceBEq, Nat.reduceEqDiff, Nat.reduceLT, Nat.reduceLeDiff, Nat.reduceAdd, Nat.reduceMul, Nat.reduceSub, reduceCtorEq, Int.reduceToNat]) | (refine Br.mk ?_ ?_ <;> intro h) | (refine BrN.mk (fun h => ?_) ?_) | (refine AltVC.mk ?_ ?_)
        refine CallVC.eq hcf ?_
        repeat' first | ((first | refine Br.dec ?_ ?_ | refine Br.eqi ?_ ?_) <;> intro h <;> try (exfalso; omega)) | (simp (disch := first | omega | (simp only [vlen]; first | done | omega)) only [hrw, hll, vav, ↓vAq, vBq, ↓reduceIte, Nat.reduceBEq, Nat.reduceEqDiff, Nat.reduceLT, Nat.reduceLeDiff, Nat.reduceAdd, Nat.reduceMul, Nat.reduceSub, reduceCtorEq, Int.reduceToNat]) | (refine Br.mk ?_ ?_ <;> intro h) | (refine BrN.mk (fun h => ?_) ?_) | (refine AltVC.mk ?_ ?_)
        exact fin_mk (by rw [hm])
      | false =>
        rw [hB] at hcf
        rw [hB, if_neg (by decide)] at hm
        repeat' first | ((first | refine Br.dec ?_ ?_ | refine Br.eqi ?_ ?_) <;> intro h <;> try (exfalso; omega)) | (simp (disch := first | omega | (simp only [vlen]; first | done | omega)) only [hrw, hll, vav, ↓vAq, vBq, ↓reduceIte, Nat.reduceBEq, Nat.reduceEqDiff, Nat.reduceLT, Nat.reduceLeDiff, Nat.reduceAdd, Nat.reduceMul, Nat.reduceSub, reduceCtorEq, Int.reduceToNat]) | (refine Br.mk ?_ ?_ <;> intro h) | (refine BrN.mk (fun h => ?_) ?_) | (refine AltVC.mk ?_ ?_)
        refine CallVC.eq hcf ?_
        repeat' first | ((first | refine Br.dec ?_ ?_ | refine Br.eqi ?_ ?_) <;> intro h <;> try (exfalso; omega)) | (simp (disch := first | omega | (simp only [vlen]; first | done | omega)) only [hrw, hll, vav, ↓vAq, vBq, ↓reduceIte, Nat.reduceBEq, Nat.reduceEqDiff, Nat.reduceLT, Nat.reduceLeDiff, Nat.reduceAdd, Nat.reduceMul, Nat.reduceSub, reduceCtorEq, Int.reduceToNat]) | (refine Br.mk ?_ ?_ <;> intro h) | (refine BrN.mk (fun h => ?_) ?_) | (refine AltVC.mk ?_ ?_)
        exact fin_mk (by rw [hm])
set_option maxRecDepth 10000 in
set_option maxHeartbeats 4000000 in
theorem rcheck_spec (W : List (List UInt8)) (hW : W.length ≤ 9223372036854775807) (hw : ∀ w, w ∈ W → w.length ≤ 9223372036854775807) (t : List UInt8) (ht : t.length ≤ 9223372036854775807) : Dm.Spec Try.prog 16 [.sl 1 (rows u8s W), .sl 1 (u8s t)] (· = iv .i64 (mnC W t)) := by
  refine spec_of_vc mixed Try.func16 c16 (by rw [show Try.f16.ntmps = _ from Try.ntmps16]; simp) ?_
  unfold m16 r16
  by_cases h8 : 8 < W.length
  · have hm : mnC W t = 1 := by unfold mnC; rw [if_pos (.inl h8)]
    repeat' first | ((first | refine Br.dec ?_ ?_ | refine Br.eqi ?_ ?_) <;> intro h <;> try (exfalso; omega)) | (simp (disch := first | omega | (simp only [vlen]; first | done | omega)) only [vav, ↓vAq, vBq, ↓reduceIte, Nat.reduceBEq, Nat.reduceEqDiff, Nat.reduceLT, Nat.reduceLeDiff, Nat.reduceAdd, Nat.reduceMul, Nat.reduceSub, reduceCtorEq, Int.reduceToNat]) | (refine Br.mk ?_ ?_ <;> intro h) | (refine BrN.mk (fun h => ?_) ?_) | (refine AltVC.mk ?_ ?_)
    exact fin_mk (by rw [hm])
  by_cases h60 : 60 < t.length
  · have hm : mnC W t = 1 := by unfold mnC; rw [if_pos (.inr (.inl h60))]
    repeat' first | ((first | refine Br.dec ?_ ?_ | refine Br.eqi ?_ ?_) <;> intro h <;> try (exfalso; omega)) | (simp (disch := first | omega | (simp only [vlen]; first | done | omega)) only [vav, ↓vAq, vBq, ↓reduceIte, Nat.reduceBEq, Nat.reduceEqDiff, Nat.reduceLT, Nat.reduceLeDiff, Nat.reduceAdd, Nat.reduceMul, Nat.reduceSub, reduceCtorEq, Int.reduceToNat]) | (refine Br.mk ?_ ?_ <;> intro h) | (refine BrN.mk (fun h => ?_) ?_) | (refine AltVC.mk ?_ ?_)
    exact fin_mk (by rw [hm])
  repeat' first | ((first | refine Br.dec ?_ ?_ | refine Br.eqi ?_ ?_) <;> intro h <;> try (exfalso; omega)) | (simp (disch := first | omega | (simp only [vlen]; first | done | omega)) only [vav, ↓vAq, vBq, ↓reduceIte, Nat.reduceBEq, Nat.reduceEqDiff, Nat.reduceLT, Nat.reduceLeDiff, Nat.reduceAdd, Nat.reduceMul, Nat.reduceSub, reduceCtorEq, Int.reduceToNat]) | (refine Br.mk ?_ ?_ <;> intro h) | (refine BrN.mk (fun h => ?_) ?_) | (refine AltVC.mk ?_ ?_)
  refine LoopVC.mk (X := Nat) (fun i => [(19, iv .i64 i)]) (fun _ => []) (fun i => W.length - i) (fun i => i ≤ W.length ∧ ∀ j, j < i → tooL (W.getD j default) = false) 0 ⟨by omega, by omega⟩ ?_ ?_
  · (simp (disch := first | omega | (simp only [vlen]; first | done | omega)) only [Fits_u, Fits_m, Fits_nil, List.length_append, vav, ↓vAq, vBq, ↓reduceIte, Nat.reduceBEq, Nat.reduceEqDiff, Nat.reduceLT, Nat.reduceLeDiff, Nat.reduceAdd, Nat.reduceMul, Nat.reduceSub, reduceCtorEq, Int.reduceToNat] <;> (repeat' first | rfl | apply And.intro))
  · rintro i ⟨hi, hn⟩
    by_cases hil : i < W.length
    · have hwl := hw _ (getD_mem' hil)
      by_cases h60 : 60 < (W.getD i default).length
      · have hm : mnC W t = 1 := by unfold mnC; rw [if_pos (.inr (.inr (anyH (p := tooL) (i := i) hil (decide_eq_true h60))))]
        repeat' first | ((first | refine Br.dec ?_ ?_ | refine Br.eqi ?_ ?_) <;> intro h <;> try (exfalso; omega)) | (simp (disch := first | omega | (simp only [vlen]; first | done | omega)) only [vav, ↓vAq, vBq, ↓reduceIte, Nat.reduceBEq, Nat.reduceEqDiff, Nat.reduceLT, Nat.reduceLeDiff, Nat.reduceAdd, Nat.reduceMul, Nat.reduceSub, reduceCtorEq, Int.reduceToNat]) | (refine Br.mk ?_ ?_ <;> intro h) | (refine BrN.mk (fun h => ?_) ?_) | (refine AltVC.mk ?_ ?_)
        exact fin_mk (by rw [hm])
      · repeat' first | ((first | refine Br.dec ?_ ?_ | refine Br.eqi ?_ ?_) <;> intro h <;> try (exfalso; omega)) | (simp (disch := first | omega | (simp only [vlen]; first | done | omega)) only [vav, ↓vAq, vBq, ↓reduceIte, Nat.reduceBEq, Nat.reduceEqDiff, Nat.reduceLT, Nat.reduceLeDiff, Nat.reduceAdd, Nat.reduceMul, Nat.reduceSub, reduceCtorEq, Int.reduceToNat]) | (refine Br.mk ?_ ?_ <;> intro h) | (refine BrN.mk (fun h => ?_) ?_) | (refine AltVC.mk ?_ ?_)
        refine loopK.mk (i + 1) (by simp (disch := first | omega | (simp only [vlen]; first | done | omega)) only [vav, ↓vAq, vBq, ↓reduceIte, Nat.reduceBEq, Nat.reduceEqDiff, Nat.reduceLT, Nat.reduceLeDiff, Nat.reduceAdd, Nat.reduceMul, Nat.reduceSub, reduceCtorEq, Int.reduceToNat]) ⟨by omega, fun j hj => ?_⟩ (by omega) (by (simp (disch := first | omega | (simp only [vlen]; first | done | omega)) only [Fits_u, Fits_m, Fits_nil, List.length_append, vav, ↓vAq, vBq, ↓reduceIte, Nat.reduceBEq, Nat.reduceEqDiff, Nat.reduceLT, Nat.reduceLeDiff, Nat.reduceAdd, Nat.reduceMul, Nat.reduceSub, reduceCtorEq, Int.reduceToNat] <;> (repeat' first | rfl | apply And.intro)))
        by_cases e : j = i
        · subst e; exact decide_eq_false h60
        · exact hn j (by omega)
    · have hA := anyN (p := tooL) (l := W) (i := i) (by omega) hn
      have hm : mnC W t = if W.any nilW = true then 2 else 0 := by
        unfold mnC
        rw [if_neg]
        rintro (h | h | h)
        · exact h8 h
        · exact h60 h
        · rw [hA] at h; cases h
      repeat' first | ((first | refine Br.dec ?_ ?_ | refine Br.eqi ?_ ?_) <;> intro h <;> try (exfalso; omega)) | (simp (disch := first | omega | (simp only [vlen]; first | done | omega)) only [vav, ↓vAq, vBq, ↓reduceIte, Nat.reduceBEq, Nat.reduceEqDiff, Nat.reduceLT, Nat.reduceLeDiff, Nat.reduceAdd, Nat.reduceMul, Nat.reduceSub, reduceCtorEq, Int.reduceToNat]) | (refine Br.mk ?_ ?_ <;> intro h) | (refine BrN.mk (fun h => ?_) ?_) | (refine AltVC.mk ?_ ?_)
      refine LoopVC.mk (X := Nat) (fun i => [(29, iv .i64 i)]) (fun _ => []) (fun i => W.length - i) (fun i => i ≤ W.length ∧ ∀ j, j < i → nilW (W.getD j default) = false) 0 ⟨by omega, by omega⟩ ?_ ?_
      · (simp (disch := first | omega | (simp only [vlen]; first | done | omega)) only [Fits_u, Fits_m, Fits_nil, List.length_append, vav, ↓vAq, vBq, ↓reduceIte, Nat.reduceBEq, Nat.reduceEqDiff, Nat.reduceLT, Nat.reduceLeDiff, Nat.reduceAdd, Nat.reduceMul, Nat.reduceSub, reduceCtorEq, Int.reduceToNat] <;> (repeat' first | rfl | apply And.intro))
      · rintro i ⟨hi, hn⟩
        by_cases hil : i < W.length
        · have hwl := hw _ (getD_mem' hil)
          by_cases h0 : (W.getD i default).length = 0
          · rw [if_pos (anyH (p := nilW) (i := i) hil (decide_eq_true h0))] at hm
            repeat' first | ((first | refine Br.dec ?_ ?_ | refine Br.eqi ?_ ?_) <;> intro h <;> try (exfalso; omega)) | (simp (disch := first | omega | (simp only [vlen]; first | done | omega)) only [h0, vav, ↓vAq, vBq, ↓reduceIte, Nat.reduceBEq, Nat.reduceEqDiff, Nat.reduceLT, Nat.reduceLeDiff, Nat.reduceAdd, Nat.reduceMul, Nat.reduceSub, reduceCtorEq, Int.reduceToNat]) | (refine Br.mk ?_ ?_ <;> intro h) | (refine BrN.mk (fun h => ?_) ?_) | (refine AltVC.mk ?_ ?_)
            exact fin_mk (by rw [hm])
          · repeat' first | ((first | refine Br.dec ?_ ?_ | refine Br.eqi ?_ ?_) <;> intro h <;> try (exfalso; omega)) | (simp (disch := first | omega | (simp only [vlen]; first | done | omega)) only [vav, ↓vAq, vBq, ↓reduceIte, Nat.reduceBEq, Nat.reduceEqDiff, Nat.reduceLT, Nat.reduceLeDiff, Nat.reduceAdd, Nat.reduceMul, Nat.reduceSub, reduceCtorEq, Int.reduceToNat]) | (refine Br.mk ?_ ?_ <;> intro h) | (refine BrN.mk (fun h => ?_) ?_) | (refine AltVC.mk ?_ ?_)
            refine loopK.mk (i + 1) (by simp (disch := first | omega | (simp only [vlen]; first | done | omega)) only [vav, ↓vAq, vBq, ↓reduceIte, Nat.reduceBEq, Nat.reduceEqDiff, Nat.reduceLT, Nat.reduceLeDiff, Nat.reduceAdd, Nat.reduceMul, Nat.reduceSub, reduceCtorEq, Int.reduceToNat]) ⟨by omega, fun j hj => ?_⟩ (by omega) (by (simp (disch := first | omega | (simp only [vlen]; first | done | omega)) only [Fits_u, Fits_m, Fits_nil, List.length_append, vav, ↓vAq, vBq, ↓reduceIte, Nat.reduceBEq, Nat.reduceEqDiff, Nat.reduceLT, Nat.reduceLeDiff, Nat.reduceAdd, Nat.reduceMul, Nat.reduceSub, reduceCtorEq, Int.reduceToNat] <;> (repeat' first | rfl | apply And.intro)))
            by_cases e : j = i
            · subst e; exact decide_eq_false h0
            · exact hn j (by omega)
        · rw [anyN (p := nilW) (l := W) (i := i) (by omega) hn, if_neg (by decide)] at hm
          repeat' first | ((first | refine Br.dec ?_ ?_ | refine Br.eqi ?_ ?_) <;> intro h <;> try (exfalso; omega)) | (simp (disch := first | omega | (simp only [vlen]; first | done | omega)) only [vav, ↓vAq, vBq, ↓reduceIte, Nat.reduceBEq, Nat.reduceEqDiff, Nat.reduceLT, Nat.reduceLeDiff, Nat.reduceAdd, Nat.reduceMul, Nat.reduceSub, reduceCtorEq, Int.reduceToNat]) | (refine Br.mk ?_ ?_ <;> intro h) | (refine BrN.mk (fun h => ?_) ?_) | (refine AltVC.mk ?_ ?_)
          exact fin_mk (by rw [hm])
end Go.Proofs.Ytdcdldfleeilnaa

namespace Go.Proofs.Ytdcdldfleeilnaa
open Go.Dm
set_option linter.unusedSimpArgs false
set_option linter.unnecessarySimpa false
set_option linter.unusedVariables false
set_option linter.defProp false
def hitD (p : Nat × Nat) : List D := [iv .i64 p.1, iv .i64 p.2]
theorem hit_app {L : List (Nat × Nat)} {a b : Nat} : tbl hitD L ++ [[D.v (.int .i64 ((a : Int) + 1)), D.v (.int .i64 (b : Int))]] = tbl hitD (L ++ [(a + 1, b)]) := by rw [tbl_app]; rfl
theorem iN_get {l : List Nat} {q : Nat} {d : List D} (h : q < l.length) : (i64s (natI l)).getD q d = [.v (.int .i64 ((l.getD q 0 : Nat) : Int))] := by simp [i64s, natI, List.getD_eq_getElem?_getD, h]
theorem trim_sets {l : List (List D)} {i m : Nat} {x : List D} : List.map (fun e => List.map (D.trim m) e) (l.set i x) = (List.map (fun e => List.map (D.trim m) e) l).set i (x.map (D.trim m)) := List.map_set
theorem trim_tbl {T : List Nd} {m : Nat} : List.map (fun e => List.map (D.trim m) e) (tbl ndD T) = tbl ndD T := by
  have e : ((fun e => List.map (D.trim m) e) ∘ ndD) = ndD := by funext x; simp [ndD, trim_om, trim_oo, trim_v]
  simp [tbl, e]
def vmg := And.intro vav <| And.intro @trim_sets <| And.intro @trim_tbl <| And.intro @hit_app @iN_get
def LgR (W : List (List UInt8)) (t : List UInt8) (d : D) : Prop := (mnC W t ≠ 0 ∧ d = .tu [.sl 1 [], iv .i64 (mnC W t)]) ∨ (mnC W t = 0 ∧ ∃ Ss l, Bgs W Ss ∧ l.length = t.length + 1 ∧ (∀ k, k ≤ t.length → ∃ v, LS Ss (t.take k) v ∧ l.getD k 0 = v.length) ∧ d = .tu [.sl 1 (i64s (natI l)), iv .i64 0])
set_option maxRecDepth 10000 in
set_option maxHeartbeats 4000000 in
theorem longest_spec (W : List (List UInt8)) (hW : W.length * 24 ≤ 140737488351232) (hw : ∀ w, w ∈ W → w.length ≤ 9223372036854775807) (t : List UInt8) (ht : t.length ≤ 9223372036854775807) : Dm.Spec Try.prog 15 [.sl 1 (rows u8s W), .sl 1 (u8s t)] (LgR W t) := by
  refine spec_of_vc mixed Try.func15 c15 (by rw [show Try.f15.ntmps = _ from Try.ntmps15]; simp) ?_
  unfold m15 r15
  have hck := mcheck_spec W hW hw t ht
  by_cases hm : mnC W t = 0
  rotate_left
  · repeat' first | ((first | refine Br.dec ?_ ?_ | refine Br.eqi ?_ ?_) <;> intro h <;> try (exfalso; omega)) | (simp (disch := first | omega | (simp only [vlen]; first | done | omega)) only [vmg, ↓vAq, vBq, ↓reduceIte, Nat.reduceBEq, Nat.reduceEqDiff, Nat.reduceLT, Nat.reduceLeDiff, Nat.reduceAdd, Nat.reduceMul, Nat.reduceSub, reduceCtorEq, Int.reduceToNat]) | (refine Br.mk ?_ ?_ <;> intro h) | (refine BrN.mk (fun h => ?_) ?_) | (refine AltVC.mk ?_ ?_)
    refine CallVC.eq hck ?_
    repeat' first | ((first | refine Br.dec ?_ ?_ | refine Br.eqi ?_ ?_) <;> intro h <;> try (exfalso; omega)) | (simp (disch := first | omega | (simp only [vlen]; first | done | omega)) only [vmg, ↓vAq, vBq, ↓reduceIte, Nat.reduceBEq, Nat.reduceEqDiff, Nat.reduceLT, Nat.reduceLeDiff, Nat.reduceAdd, Nat.reduceMul, Nat.reduceSub, reduceCtorEq, Int.reduceToNat]) | (refine Br.mk ?_ ?_ <;> intro h) | (refine BrN.mk (fun h => ?_) ?_) | (refine AltVC.mk ?_ ?_)
    exact fin_mk (.inl ⟨hm, rfl⟩)
  rw [hm] at hck
  obtain ⟨h8, h60, hwl⟩ := mnC_ok hm
  repeat' first | ((first | refine Br.dec ?_ ?_ | refine Br.eqi ?_ ?_) <;> intro h <;> try (exfalso; omega)) | (simp (disch := first | omega | (simp only [vlen]; first | done | omega)) only [vmg, ↓vAq, vBq, ↓reduceIte, Nat.reduceBEq, Nat.reduceEqDiff, Nat.reduceLT, Nat.reduceLeDiff, Nat.reduceAdd, Nat.reduceMul, Nat.reduceSub, reduceCtorEq, Int.reduceToNat]) | (refine Br.mk ?_ ?_ <;> intro h) | (refine BrN.mk (fun h => ?_) ?_) | (refine AltVC.mk ?_ ?_)
  refine CallVC.eq hck ?_
  repeat' first | ((first | refine Br.dec ?_ ?_ | refine Br.eqi ?_ ?_) <;> intro h <;> try (exfalso; omega)) | (simp (disch := first | omega | (simp only [vlen]; first | done | omega)) only [vmg, ↓vAq, vBq, ↓reduceIte, Nat.reduceBEq, Nat.reduceEqDiff, Nat.reduceLT, Nat.reduceLeDiff, Nat.reduceAdd, Nat.reduceMul, Nat.reduceSub, reduceCtorEq, Int.reduceToNat]) | (refine Br.mk ?_ ?_ <;> intro h) | (refine BrN.mk (fun h => ?_) ?_) | (refine AltVC.mk ?_ ?_)
  refine CallVC.lendE [] [.sl 1 (rows u8s W)] [] (build_spec W h8 fun w h => by have := hwl w h; omega) (by simp) (by rfl) (by (simp (disch := first | omega | (simp only [vlen]; first | done | omega)) only [vle0, vmg, ↓vAq, vBq, ↓reduceIte, Nat.reduceBEq, Nat.reduceEqDiff, Nat.reduceLT, Nat.reduceLeDiff, Nat.reduceAdd, Nat.reduceMul, Nat.reduceSub, reduceCtorEq, Int.reduceToNat] <;> (repeat' first | rfl | apply And.intro))) ?_
  rintro _ _ ⟨Ss, T, rfl, rfl, hTl, hA⟩
  repeat' first | ((first | refine Br.dec ?_ ?_ | refine Br.eqi ?_ ?_) <;> intro h <;> try (exfalso; omega)) | (simp (disch := first | omega | (simp only [vlen]; first | done | omega)) only [vmg, ↓vAq, vBq, ↓reduceIte, Nat.reduceBEq, Nat.reduceEqDiff, Nat.reduceLT, Nat.reduceLeDiff, Nat.reduceAdd, Nat.reduceMul, Nat.reduceSub, reduceCtorEq, Int.reduceToNat]) | (refine Br.mk ?_ ?_ <;> intro h) | (refine BrN.mk (fun h => ?_) ?_) | (refine AltVC.mk ?_ ?_)
  have hpos : 0 < T.length := by rw [hA.tri.len]; exact hA.tri.pos
  have hSl : ∀ v, v ∈ Ss → v.length ≤ 100000 := fun v hv => by
    rcases (hA.bg v).1 hv with e | ⟨w, hw', hp⟩
    · rw [e]; exact Nat.zero_le _
    · have := hwl w hw'
      have := hp.length_le
      omega
  have e0 : [[D.v (.int .i64 0)]] = i64s (natI [0]) := rfl
  have hI0 : ∀ j, j ≤ 0 → ∃ v, LS Ss (t.take j) v ∧ [0].getD j 0 = v.length := fun j hj => by
    have : j = 0 := by omega
    subst this
    exact ⟨[], .self hA.tri.pc.1, rfl⟩
  refine LoopVC.mk (X := Nat × Nat × List Nat) (fun x => [(7, .ref 3 4 0 T.length), (8, .ref 4 1 0 x.2.2.length), (9, iv .i64 x.2.1), (23, iv .i64 x.1)]) (fun x => [(3, ⟨4, tbl ndD T, true, true, .fix⟩), (4, ⟨1, i64s (natI x.2.2), true, false, .arr⟩)]) (fun x => t.length - x.1) (fun x => x.1 ≤ t.length ∧ x.2.1 < T.length ∧ LS Ss (t.take x.1) (Ss.getD x.2.1 []) ∧ x.2.2.length = x.1 + 1 ∧ ∀ j, j ≤ x.1 → ∃ v, LS Ss (t.take j) v ∧ x.2.2.getD j 0 = v.length) (0, 0, [0]) ⟨Nat.zero_le _, hpos, by rw [hA.tri.zero]; exact .self hA.tri.pc.1, rfl, fun j hj => hI0 j hj⟩ ?_ ?_
  · (simp (disch := first | omega | (simp only [vlen]; first | done | omega)) only [Fits_u, Fits_m, Fits_nil, List.length_append, e0, vmg, ↓vAq, vBq, ↓reduceIte, Nat.reduceBEq, Nat.reduceEqDiff, Nat.reduceLT, Nat.reduceLeDiff, Nat.reduceAdd, Nat.reduceMul, Nat.reduceSub, reduceCtorEq, Int.reduceToNat] <;> (repeat' first | rfl | apply And.intro))
    all_goals first | rfl | trace_state
  · rintro ⟨k, a, l⟩ ⟨hk, ha, hL, hl, hI⟩
    simp only at hk ha hL hl hI ⊢
    by_cases hkl : k < t.length
    · obtain ⟨c, hc⟩ : ∃ c, t.getD k 0 = c := ⟨_, rfl⟩
      have htk := take_byte hkl
      rw [hc] at htk
      have hst := step_spec Ss T hA.tri hTl 100000 (by omega) (fun a ha h0 _ => hA.fl a ha h0) a ha (hSl _ (str_mem (by rw [← hA.tri.len]; exact ha))) c
      have hc8 : c.toNat < 256 := c.toNat_lt
      repeat' first | ((first | refine Br.dec ?_ ?_ | refine Br.eqi ?_ ?_) <;> intro h <;> try (exfalso; omega)) | (simp (disch := first | omega | (simp only [vlen]; first | done | omega)) only [hc, vmg, ↓vAq, vBq, ↓reduceIte, Nat.reduceBEq, Nat.reduceEqDiff, Nat.reduceLT, Nat.reduceLeDiff, Nat.reduceAdd, Nat.reduceMul, Nat.reduceSub, reduceCtorEq, Int.reduceToNat]) | (refine Br.mk ?_ ?_ <;> intro h) | (refine BrN.mk (fun h => ?_) ?_) | (refine AltVC.mk ?_ ?_)
      refine CallVC.lendE [3] [.ref 0 4 0 T.length, iv .i64 a, .v (.int .u8 (c.toNat : Int))] (ntO T) hst (by simp) (by rfl) (by unfold ntO; (simp (disch := first | omega | (simp only [vlen]; first | done | omega)) only [vle0, vmg, ↓vAq, vBq, ↓reduceIte, Nat.reduceBEq, Nat.reduceEqDiff, Nat.reduceLT, Nat.reduceLeDiff, Nat.reduceAdd, Nat.reduceMul, Nat.reduceSub, reduceCtorEq, Int.reduceToNat] <;> (repeat' first | rfl | apply And.intro))) ?_
      rintro _ _ ⟨rfl, b, rfl, hb, hLb⟩
      unfold ntO
      have hL2 : LS Ss (t.take (k + 1)) (Ss.getD b []) := by rw [htk]; exact (hL.snoc hA.tri.pc).2 hLb
      have hlo := hA.tri.lo b hb
      have hln : (l ++ [(T.getD b default).lo]).length = l.length + 1 := by simp
      repeat' first | ((first | refine Br.dec ?_ ?_ | refine Br.eqi ?_ ?_) <;> intro h <;> try (exfalso; omega)) | (simp (disch := first | omega | (simp only [vlen]; first | done | omega)) only [vmg, ↓vAq, vBq, ↓reduceIte, Nat.reduceBEq, Nat.reduceEqDiff, Nat.reduceLT, Nat.reduceLeDiff, Nat.reduceAdd, Nat.reduceMul, Nat.reduceSub, reduceCtorEq, Int.reduceToNat]) | (refine Br.mk ?_ ?_ <;> intro h) | (refine BrN.mk (fun h => ?_) ?_) | (refine AltVC.mk ?_ ?_)
      refine loopK.mk (k + 1, b, l ++ [(T.getD b default).lo]) (by simp (disch := first | omega | (simp only [vlen]; first | done | omega)) only [vmg, ↓vAq, vBq, ↓reduceIte, Nat.reduceBEq, Nat.reduceEqDiff, Nat.reduceLT, Nat.reduceLeDiff, Nat.reduceAdd, Nat.reduceMul, Nat.reduceSub, reduceCtorEq, Int.reduceToNat]) ⟨by show k + 1 ≤ t.length; omega, hb, hL2, by rw [hln, hl], fun j hj => ?_⟩ (by show t.length - (k + 1) < t.length - k; omega) ?_
      · by_cases e : j = k + 1
        · subst e
          refine ⟨_, hL2, ?_⟩
          rw [← hl]
          show (l ++ [(T.getD b default).lo]).getD l.length 0 = _
          rw [getD_app_e, hlo]
        · obtain ⟨v, hv1, hv2⟩ := hI j (by omega)
          refine ⟨v, hv1, ?_⟩
          show (l ++ [(T.getD b default).lo]).getD j 0 = _
          rw [getD_app_l (by omega)]; exact hv2
      (simp (disch := first | omega | (simp only [vlen]; first | done | omega)) only [Fits_u, Fits_m, Fits_nil, List.length_append, hln, vmg, ↓vAq, vBq, ↓reduceIte, Nat.reduceBEq, Nat.reduceEqDiff, Nat.reduceLT, Nat.reduceLeDiff, Nat.reduceAdd, Nat.reduceMul, Nat.reduceSub, reduceCtorEq, Int.reduceToNat] <;> (repeat' first | rfl | apply And.intro))
      all_goals first | rfl | trace_state
    · have hke : k = t.length := by omega
      subst hke
      have hvw : viewO (some ⟨1, i64s (natI l), true, false, .arr⟩) 1 0 l.length = .sl 1 (i64s (natI l)) := viewO_all (by simp [i64s, natI])
      repeat' first | ((first | refine Br.dec ?_ ?_ | refine Br.eqi ?_ ?_) <;> intro h <;> try (exfalso; omega)) | (simp (disch := first | omega | (simp only [vlen]; first | done | omega)) only [hvw, vmg, ↓vAq, vBq, ↓reduceIte, Nat.reduceBEq, Nat.reduceEqDiff, Nat.reduceLT, Nat.reduceLeDiff, Nat.reduceAdd, Nat.reduceMul, Nat.reduceSub, reduceCtorEq, Int.reduceToNat]) | (refine Br.mk ?_ ?_ <;> intro h) | (refine BrN.mk (fun h => ?_) ?_) | (refine AltVC.mk ?_ ?_)
      exact fin_mk (.inr ⟨hm, Ss, l, hA.bg, hl, hI, rfl⟩)
end Go.Proofs.Ytdcdldfleeilnaa

namespace Go.Proofs.Ytdcdldfleeilnaa
open Go.Dm
set_option linter.unusedSimpArgs false
set_option linter.unnecessarySimpa false
set_option linter.unusedVariables false
theorem succ_allI {p : Nat → Prop} {i : Nat} (h : ∀ j, j < i → p j) (hi : p i) : ∀ j, j < i + 1 → p j := fun j hj => by
  by_cases e : j = i
  · exact e ▸ hi
  · exact h j (by omega)
theorem ext_dI {α : Type} {a b : List α} {d : α} (hl : a.length = b.length) (h : ∀ j, j < a.length → a.getD j d = b.getD j d) : a = b := by
  apply List.ext_getElem hl
  intro j h1 h2
  have := h j h1
  simpa [List.getD, h1, h2] using this
set_option maxRecDepth 10000 in
set_option maxHeartbeats 4000000 in
theorem intsI_spec (a b : List Int) (ha : a.length ≤ 9223372036854775807) (hb : b.length ≤ 9223372036854775807) : Dm.Spec Try.prog 9 [.sl 1 (i64s a), .sl 1 (i64s b)] (· = .v (.bool (decide (a = b)))) := by
  refine spec_of_vc mixed Try.func9 c9 (by rw [show Try.f9.ntmps = _ from Try.ntmps9]; simp) ?_
  unfold m9 r9
  repeat' first | ((first | refine Br.dec ?_ ?_ | refine Br.eqi ?_ ?_) <;> intro h <;> try (exfalso; omega)) | (simp (disch := first | omega | (simp only [vlen]; first | done | omega)) only [↓vAq, vBq, ↓reduceIte, Nat.reduceBEq, Nat.reduceEqDiff, Nat.reduceLT, Nat.reduceLeDiff, Nat.reduceAdd, Nat.reduceMul, Nat.reduceSub, reduceCtorEq, Int.reduceToNat]) | (refine Br.mk ?_ ?_ <;> intro h) | (refine BrN.mk (fun h => ?_) ?_) | (refine AltVC.mk ?_ ?_)
  · refine LoopVC.mk (X := Nat) (fun i => [(5, iv .i64 i)]) (fun _ => []) (fun i => a.length - i) (fun i => i ≤ a.length ∧ ∀ j, j < i → a.getD j 0 = b.getD j 0) 0 ⟨by omega, by omega⟩ ?_ ?_
    · (simp (disch := first | omega | (simp only [vlen]; first | done | omega)) only [Fits_u, Fits_m, Fits_nil, List.length_append, ↓vAq, vBq, ↓reduceIte, Nat.reduceBEq, Nat.reduceEqDiff, Nat.reduceLT, Nat.reduceLeDiff, Nat.reduceAdd, Nat.reduceMul, Nat.reduceSub, reduceCtorEq, Int.reduceToNat] <;> (repeat' first | rfl | apply And.intro))
    · rintro i ⟨h1, h2⟩
      repeat' first | ((first | refine Br.dec ?_ ?_ | refine Br.eqi ?_ ?_) <;> intro h <;> try (exfalso; omega)) | (simp (disch := first | omega | (simp only [vlen]; first | done | omega)) only [↓vAq, vBq, ↓reduceIte, Nat.reduceBEq, Nat.reduceEqDiff, Nat.reduceLT, Nat.reduceLeDiff, Nat.reduceAdd, Nat.reduceMul, Nat.reduceSub, reduceCtorEq, Int.reduceToNat]) | (refine Br.mk ?_ ?_ <;> intro h) | (refine BrN.mk (fun h => ?_) ?_) | (refine AltVC.mk ?_ ?_)
      · exact loopK.mk (i + 1) (by simp (disch := first | omega | (simp only [vlen]; first | done | omega)) only [↓vAq, vBq, ↓reduceIte, Nat.reduceBEq, Nat.reduceEqDiff, Nat.reduceLT, Nat.reduceLeDiff, Nat.reduceAdd, Nat.reduceMul, Nat.reduceSub, reduceCtorEq, Int.reduceToNat]) ⟨by omega, succ_allI h2 (by assumption)⟩ (by omega) (by (simp (disch := first | omega | (simp only [vlen]; first | done | omega)) only [Fits_u, Fits_m, Fits_nil, List.length_append, ↓vAq, vBq, ↓reduceIte, Nat.reduceBEq, Nat.reduceEqDiff, Nat.reduceLT, Nat.reduceLeDiff, Nat.reduceAdd, Nat.reduceMul, Nat.reduceSub, reduceCtorEq, Int.reduceToNat] <;> (repeat' first | rfl | apply And.intro)))
      · exact fin_mk (vbEq (decide_eq_false (fun e => by subst e; contradiction)).symm)
      · exact fin_mk (vbEq (decide_eq_true (ext_dI (d := 0) (by omega) (fun j hj => h2 j (by omega)))).symm)
  · exact fin_mk (vbEq (by rw [decide_eq_false (fun e => by subst e; omega)]))
end Go.Proofs.Ytdcdldfleeilnaa

namespace Go.Proofs.Ytdcdldfleeilnaa
open Go.Dm
set_option linter.unusedSimpArgs false
set_option linter.unnecessarySimpa false
set_option linter.unusedVariables false
set_option linter.defProp false
theorem suf_at {u w : List UInt8} : w <:+ u ↔ w.length ≤ u.length ∧ u.drop (u.length - w.length) = w := by
  constructor
  · intro h
    exact ⟨h.length_le, (List.suffix_iff_eq_drop.1 h).symm⟩
  · rintro ⟨_, h⟩
    rw [← h]; exact List.drop_suffix _ _
set_option maxRecDepth 10000 in
set_option maxHeartbeats 4000000 in
theorem rlong_spec (W Ss : List (List UInt8)) (hB : Bgs W Ss) (hW : W.length ≤ 8) (hw : ∀ w, w ∈ W → w.length ≤ 60) (t : List UInt8) (ht : t.length ≤ 60) (e : Nat) (he : e ≤ t.length) : Dm.Spec Try.prog 17 [.sl 1 (rows u8s W), .sl 1 (u8s t), iv .i64 e] (fun d => ∃ v, LS Ss (t.take e) v ∧ d = iv .i64 v.length) := by
  refine spec_of_vc mixed Try.func17 c17 (by rw [show Try.f17.ntmps = _ from Try.ntmps17]; simp) ?_
  unfold m17 r17
  have hte : (t.take e).length = e := by rw [List.length_take]; omega
  repeat' first | ((first | refine Br.dec ?_ ?_ | refine Br.eqi ?_ ?_) <;> intro h <;> try (exfalso; omega)) | (simp (disch := first | omega | (simp only [vlen]; first | done | omega)) only [vmg, ↓vAq, vBq, ↓reduceIte, Nat.reduceBEq, Nat.reduceEqDiff, Nat.reduceLT, Nat.reduceLeDiff, Nat.reduceAdd, Nat.reduceMul, Nat.reduceSub, reduceCtorEq, Int.reduceToNat]) | (refine Br.mk ?_ ?_ <;> intro h) | (refine BrN.mk (fun h => ?_) ?_) | (refine AltVC.mk ?_ ?_)
  refine LoopVC.mk (X := Nat) (fun n => [(7, iv .i64 n)]) (fun _ => []) (fun n => n) (fun n => n ≤ e ∧ ∀ m, n < m → m ≤ e → (t.take e).drop (e - m) ∉ Ss) e ⟨Nat.le_refl _, fun m h1 h2 => by omega⟩ ?_ ?_
  · (simp (disch := first | omega | (simp only [vlen]; first | done | omega)) only [Fits_u, Fits_m, Fits_nil, List.length_append, vmg, ↓vAq, vBq, ↓reduceIte, Nat.reduceBEq, Nat.reduceEqDiff, Nat.reduceLT, Nat.reduceLeDiff, Nat.reduceAdd, Nat.reduceMul, Nat.reduceSub, reduceCtorEq, Int.reduceToNat] <;> (repeat' first | rfl | apply And.intro))
  · rintro n ⟨hn, hI⟩
    by_cases hn0 : 0 < n
    · repeat' first | ((first | refine Br.dec ?_ ?_ | refine Br.eqi ?_ ?_) <;> intro h <;> try (exfalso; omega)) | (simp (disch := first | omega | (simp only [vlen]; first | done | omega)) only [vmg, ↓vAq, vBq, ↓reduceIte, Nat.reduceBEq, Nat.reduceEqDiff, Nat.reduceLT, Nat.reduceLeDiff, Nat.reduceAdd, Nat.reduceMul, Nat.reduceSub, reduceCtorEq, Int.reduceToNat]) | (refine Br.mk ?_ ?_ <;> intro h) | (refine BrN.mk (fun h => ?_) ?_) | (refine AltVC.mk ?_ ?_)
      refine LoopVC.mk (X := Nat) (fun q => [(17, iv .i64 q)]) (fun _ => []) (fun q => W.length - q) (fun q => q ≤ W.length ∧ ∀ j, j < q → ¬ (n ≤ (W.getD j []).length ∧ (W.getD j []).take n = (t.take e).drop (e - n))) 0 ⟨Nat.zero_le _, fun j hj => absurd hj (Nat.not_lt_zero _)⟩ ?_ ?_
      · (simp (disch := first | omega | (simp only [vlen]; first | done | omega)) only [Fits_u, Fits_m, Fits_nil, List.length_append, vmg, ↓vAq, vBq, ↓reduceIte, Nat.reduceBEq, Nat.reduceEqDiff, Nat.reduceLT, Nat.reduceLeDiff, Nat.reduceAdd, Nat.reduceMul, Nat.reduceSub, reduceCtorEq, Int.reduceToNat] <;> (repeat' first | rfl | apply And.intro))
      · rintro q ⟨hq, hJ⟩
        by_cases hql : q < W.length
        · obtain ⟨w, hwe⟩ : ∃ w, W.getD q default = w := ⟨_, rfl⟩
          have hwe' : W.getD q [] = w := hwe
          have hwm : w ∈ W := by rw [← hwe]; exact getD_mem' hql
          have hwl := hw w hwm
          have hen : ((e : Int) - (n : Int)).toNat = e - n := by omega
          by_cases hnw : n ≤ w.length
          · have hby := bytes_spec (w.take n) ((t.take e).drop (e - n)) (by rw [List.length_take]; omega)
            by_cases hs : w.take n = (t.take e).drop (e - n)
            · rw [decide_eq_true hs] at hby
              repeat' first | ((first | refine Br.dec ?_ ?_ | refine Br.eqi ?_ ?_) <;> intro h <;> try (exfalso; omega)) | (simp (disch := first | omega | (simp only [vlen]; first | done | omega)) only [hwe, hen, vmg, ↓vAq, vBq, ↓reduceIte, Nat.reduceBEq, Nat.reduceEqDiff, Nat.reduceLT, Nat.reduceLeDiff, Nat.reduceAdd, Nat.reduceMul, Nat.reduceSub, reduceCtorEq, Int.reduceToNat]) | (refine Br.mk ?_ ?_ <;> intro h) | (refine BrN.mk (fun h => ?_) ?_) | (refine AltVC.mk ?_ ?_)
              refine CallVC.eq hby ?_
              repeat' first | ((first | refine Br.dec ?_ ?_ | refine Br.eqi ?_ ?_) <;> intro h <;> try (exfalso; omega)) | (simp (disch := first | omega | (simp only [vlen]; first | done | omega)) only [hwe, vmg, ↓vAq, vBq, ↓reduceIte, Nat.reduceBEq, Nat.reduceEqDiff, Nat.reduceLT, Nat.reduceLeDiff, Nat.reduceAdd, Nat.reduceMul, Nat.reduceSub, reduceCtorEq, Int.reduceToNat]) | (refine Br.mk ?_ ?_ <;> intro h) | (refine BrN.mk (fun h => ?_) ?_) | (refine AltVC.mk ?_ ?_)
              refine fin_mk ⟨(t.take e).drop (e - n), ⟨List.drop_suffix _ _, (hB _).2 (.inr ⟨w, hwm, ?_⟩), fun v h1 h2 => ?_⟩, ?_⟩
              · rw [← hs]; exact List.take_prefix _ _
              · rw [List.length_drop, hte]
                rcases Nat.lt_or_ge n v.length with h3 | h3
                · exfalso
                  have h4 := h1.length_le
                  rw [hte] at h4
                  have h5 := (suf_at.1 h1).2
                  rw [hte] at h5
                  exact hI v.length h3 h4 (by rw [h5]; exact h2)
                · omega
              · rw [List.length_drop, hte, show e - (e - n) = n by omega]
            · rw [decide_eq_false hs] at hby
              repeat' first | ((first | refine Br.dec ?_ ?_ | refine Br.eqi ?_ ?_) <;> intro h <;> try (exfalso; omega)) | (simp (disch := first | omega | (simp only [vlen]; first | done | omega)) only [hwe, hen, vmg, ↓vAq, vBq, ↓reduceIte, Nat.reduceBEq, Nat.reduceEqDiff, Nat.reduceLT, Nat.reduceLeDiff, Nat.reduceAdd, Nat.reduceMul, Nat.reduceSub, reduceCtorEq, Int.reduceToNat]) | (refine Br.mk ?_ ?_ <;> intro h) | (refine BrN.mk (fun h => ?_) ?_) | (refine AltVC.mk ?_ ?_)
              refine CallVC.eq hby ?_
              repeat' first | ((first | refine Br.dec ?_ ?_ | refine Br.eqi ?_ ?_) <;> intro h <;> try (exfalso; omega)) | (simp (disch := first | omega | (simp only [vlen]; first | done | omega)) only [hwe, vmg, ↓vAq, vBq, ↓reduceIte, Nat.reduceBEq, Nat.reduceEqDiff, Nat.reduceLT, Nat.reduceLeDiff, Nat.reduceAdd, Nat.reduceMul, Nat.reduceSub, reduceCtorEq, Int.reduceToNat]) | (refine Br.mk ?_ ?_ <;> intro h) | (refine BrN.mk (fun h => ?_) ?_) | (refine AltVC.mk ?_ ?_)
              refine loopK.mk (q + 1) (by simp (disch := first | omega | (simp only [vlen]; first | done | omega)) only [vmg, ↓vAq, vBq, ↓reduceIte, Nat.reduceBEq, Nat.reduceEqDiff, Nat.reduceLT, Nat.reduceLeDiff, Nat.reduceAdd, Nat.reduceMul, Nat.reduceSub, reduceCtorEq, Int.reduceToNat]) ⟨by show q + 1 ≤ _; omega, fun j hj => ?_⟩ (by show W.length - (q + 1) < W.length - q; omega) (by (simp (disch := first | omega | (simp only [vlen]; first | done | omega)) only [Fits_u, Fits_m, Fits_nil, List.length_append, vmg, ↓vAq, vBq, ↓reduceIte, Nat.reduceBEq, Nat.reduceEqDiff, Nat.reduceLT, Nat.reduceLeDiff, Nat.reduceAdd, Nat.reduceMul, Nat.reduceSub, reduceCtorEq, Int.reduceToNat] <;> (repeat' first | rfl | apply And.intro)))
              by_cases ej : j = q
              · subst ej; rw [hwe']; exact fun h => hs h.2
              · exact hJ j (by omega)
          · repeat' first | ((first | refine Br.dec ?_ ?_ | refine Br.eqi ?_ ?_) <;> intro h <;> try (exfalso; omega)) | (simp (disch := first | omega | (simp only [vlen]; first | done | omega)) only [hwe, vmg, ↓vAq, vBq, ↓reduceIte, Nat.reduceBEq, Nat.reduceEqDiff, Nat.reduceLT, Nat.reduceLeDiff, Nat.reduceAdd, Nat.reduceMul, Nat.reduceSub, reduceCtorEq, Int.reduceToNat]) | (refine Br.mk ?_ ?_ <;> intro h) | (refine BrN.mk (fun h => ?_) ?_) | (refine AltVC.mk ?_ ?_)
            refine loopK.mk (q + 1) (by simp (disch := first | omega | (simp only [vlen]; first | done | omega)) only [vmg, ↓vAq, vBq, ↓reduceIte, Nat.reduceBEq, Nat.reduceEqDiff, Nat.reduceLT, Nat.reduceLeDiff, Nat.reduceAdd, Nat.reduceMul, Nat.reduceSub, reduceCtorEq, Int.reduceToNat]) ⟨by show q + 1 ≤ _; omega, fun j hj => ?_⟩ (by show W.length - (q + 1) < W.length - q; omega) (by (simp (disch := first | omega | (simp only [vlen]; first | done | omega)) only [Fits_u, Fits_m, Fits_nil, List.length_append, vmg, ↓vAq, vBq, ↓reduceIte, Nat.reduceBEq, Nat.reduceEqDiff, Nat.reduceLT, Nat.reduceLeDiff, Nat.reduceAdd, Nat.reduceMul, Nat.reduceSub, reduceCtorEq, Int.reduceToNat] <;> (repeat' first | rfl | apply And.intro)))
            by_cases ej : j = q
            · subst ej; rw [hwe']; exact fun h => hnw h.1
            · exact hJ j (by omega)
        · repeat' first | ((first | refine Br.dec ?_ ?_ | refine Br.eqi ?_ ?_) <;> intro h <;> try (exfalso; omega)) | (simp (disch := first | omega | (simp only [vlen]; first | done | omega)) only [vmg, ↓vAq, vBq, ↓reduceIte, Nat.reduceBEq, Nat.reduceEqDiff, Nat.reduceLT, Nat.reduceLeDiff, Nat.reduceAdd, Nat.reduceMul, Nat.reduceSub, reduceCtorEq, Int.reduceToNat]) | (refine Br.mk ?_ ?_ <;> intro h) | (refine BrN.mk (fun h => ?_) ?_) | (refine AltVC.mk ?_ ?_)
          refine loopK.mk (n - 1) (by simp (disch := first | omega | (simp only [vlen]; first | done | omega)) only [vmg, ↓vAq, vBq, ↓reduceIte, Nat.reduceBEq, Nat.reduceEqDiff, Nat.reduceLT, Nat.reduceLeDiff, Nat.reduceAdd, Nat.reduceMul, Nat.reduceSub, reduceCtorEq, Int.reduceToNat]) ⟨by show n - 1 ≤ e; omega, fun m h1 h2 => ?_⟩ (by show n - 1 < n; omega) ?_
          · by_cases em : m = n
            · subst em
              intro hm
              rcases (hB _).1 hm with h3 | ⟨w, hwm, hp⟩
              · have := congrArg List.length h3
                rw [List.length_drop, hte, List.length_nil] at this
                omega
              · obtain ⟨j, hj, ej⟩ := List.getElem_of_mem hwm
                have ew : W.getD j [] = w := by simp [List.getD, hj, ej]
                have hpl := hp.length_le
                rw [List.length_drop, hte] at hpl
                refine hJ j (by omega) ?_
                rw [ew]
                refine ⟨by omega, ?_⟩
                have h4 := List.prefix_iff_eq_take.1 hp
                rw [List.length_drop, hte, show e - (e - m) = m by omega] at h4
                exact h4.symm
            · exact hI m (by omega) h2
          have hn1 : (n : Int) - 1 = ((n - 1 : Nat) : Int) := by omega
          (simp (disch := first | omega | (simp only [vlen]; first | done | omega)) only [Fits_u, Fits_m, Fits_nil, List.length_append, hn1, vmg, ↓vAq, vBq, ↓reduceIte, Nat.reduceBEq, Nat.reduceEqDiff, Nat.reduceLT, Nat.reduceLeDiff, Nat.reduceAdd, Nat.reduceMul, Nat.reduceSub, reduceCtorEq, Int.reduceToNat] <;> (repeat' first | rfl | apply And.intro))
          all_goals trace_state
    · have : n = 0 := by omega
      subst this
      repeat' first | ((first | refine Br.dec ?_ ?_ | refine Br.eqi ?_ ?_) <;> intro h <;> try (exfalso; omega)) | (simp (disch := first | omega | (simp only [vlen]; first | done | omega)) only [vmg, ↓vAq, vBq, ↓reduceIte, Nat.reduceBEq, Nat.reduceEqDiff, Nat.reduceLT, Nat.reduceLeDiff, Nat.reduceAdd, Nat.reduceMul, Nat.reduceSub, reduceCtorEq, Int.reduceToNat]) | (refine Br.mk ?_ ?_ <;> intro h) | (refine BrN.mk (fun h => ?_) ?_) | (refine AltVC.mk ?_ ?_)
      refine fin_mk ⟨[], ⟨List.nil_suffix, (hB _).2 (.inl rfl), fun v h1 h2 => ?_⟩, rfl⟩
      rcases Nat.eq_zero_or_pos v.length with h3 | h3
      · omega
      · exfalso
        have h4 := h1.length_le
        rw [hte] at h4
        have h5 := (suf_at.1 h1).2
        rw [hte] at h5
        exact hI v.length h3 h4 (by rw [h5]; exact h2)
set_option maxRecDepth 10000 in
set_option maxHeartbeats 4000000 in
theorem manyLongests_spec (W : List (List UInt8)) (kW : okL (okL fun _ => True) W) (t : List UInt8) (kt : okL (fun _ => True) t) (hW : W.length * 24 ≤ 140737488351232) : Dm.Spec Try.prog 6 [.sl 1 (rows u8s W), .sl 1 (u8s t)] (· = .v (.bool true)) := by
  refine spec_of_vc mixed Try.func6 c6 (by rw [show Try.f6.ntmps = _ from Try.ntmps6]; simp) ?_
  unfold m6 r6
  have hw : ∀ w, w ∈ W → w.length ≤ 9223372036854775807 := fun w h => maxLen_le (kW.2 w h).1
  have ht := maxLen_le kt.1
  have hf := longest_spec W hW hw t ht
  have hr := rcheck_spec W (by omega) hw t ht
  by_cases hm : mnC W t = 0
  · obtain ⟨h8, h60, hwl⟩ := mnC_ok hm
    rw [hm] at hr
    repeat' first | ((first | refine Br.dec ?_ ?_ | refine Br.eqi ?_ ?_) <;> intro h <;> try (exfalso; omega)) | (simp (disch := first | omega | (simp only [vlen]; first | done | omega)) only [vmg, ↓vAq, vBq, ↓reduceIte, Nat.reduceBEq, Nat.reduceEqDiff, Nat.reduceLT, Nat.reduceLeDiff, Nat.reduceAdd, Nat.reduceMul, Nat.reduceSub, reduceCtorEq, Int.reduceToNat]) | (refine Br.mk ?_ ?_ <;> intro h) | (refine BrN.mk (fun h => ?_) ?_) | (refine AltVC.mk ?_ ?_)
    refine CallVC.mk hf ?_
    rintro _ (⟨h, rfl⟩ | ⟨_, Ss, l, hB, hl, hI, rfl⟩)
    · exact absurd hm h
    repeat' first | ((first | refine Br.dec ?_ ?_ | refine Br.eqi ?_ ?_) <;> intro h <;> try (exfalso; omega)) | (simp (disch := first | omega | (simp only [vlen]; first | done | omega)) only [vmg, ↓vAq, vBq, ↓reduceIte, Nat.reduceBEq, Nat.reduceEqDiff, Nat.reduceLT, Nat.reduceLeDiff, Nat.reduceAdd, Nat.reduceMul, Nat.reduceSub, reduceCtorEq, Int.reduceToNat]) | (refine Br.mk ?_ ?_ <;> intro h) | (refine BrN.mk (fun h => ?_) ?_) | (refine AltVC.mk ?_ ?_)
    refine CallVC.eq hr ?_
    repeat' first | ((first | refine Br.dec ?_ ?_ | refine Br.eqi ?_ ?_) <;> intro h <;> try (exfalso; omega)) | (simp (disch := first | omega | (simp only [vlen]; first | done | omega)) only [vmg, ↓vAq, vBq, ↓reduceIte, Nat.reduceBEq, Nat.reduceEqDiff, Nat.reduceLT, Nat.reduceLeDiff, Nat.reduceAdd, Nat.reduceMul, Nat.reduceSub, reduceCtorEq, Int.reduceToNat]) | (refine Br.mk ?_ ?_ <;> intro h) | (refine BrN.mk (fun h => ?_) ?_) | (refine AltVC.mk ?_ ?_)
    refine LoopVC.mk (X := Nat) (fun e => [(8, .ref 0 1 0 (l.take e).length), (9, iv .i64 e)]) (fun e => [(0, ⟨1, i64s (natI (l.take e)), true, false, .arr⟩)]) (fun e => t.length + 1 - e) (fun e => e ≤ t.length + 1) 0 (Nat.zero_le _) ?_ ?_
    · (simp (disch := first | omega | (simp only [vlen]; first | done | omega)) only [Fits_u, Fits_m, Fits_nil, List.length_append, vmg, ↓vAq, vBq, ↓reduceIte, Nat.reduceBEq, Nat.reduceEqDiff, Nat.reduceLT, Nat.reduceLeDiff, Nat.reduceAdd, Nat.reduceMul, Nat.reduceSub, reduceCtorEq, Int.reduceToNat] <;> (repeat' first | rfl | apply And.intro))
      all_goals first | rfl | trace_state
    · intro e he
      have htl : (l.take e).length = e := by rw [List.length_take]; omega
      by_cases hel : e ≤ t.length
      · repeat' first | ((first | refine Br.dec ?_ ?_ | refine Br.eqi ?_ ?_) <;> intro h <;> try (exfalso; omega)) | (simp (disch := first | omega | (simp only [vlen]; first | done | omega)) only [vmg, ↓vAq, vBq, ↓reduceIte, Nat.reduceBEq, Nat.reduceEqDiff, Nat.reduceLT, Nat.reduceLeDiff, Nat.reduceAdd, Nat.reduceMul, Nat.reduceSub, reduceCtorEq, Int.reduceToNat]) | (refine Br.mk ?_ ?_ <;> intro h) | (refine BrN.mk (fun h => ?_) ?_) | (refine AltVC.mk ?_ ?_)
        refine CallVC.mk (rlong_spec W Ss hB h8 (fun w h => (hwl w h).2) t h60 e hel) ?_
        rintro _ ⟨v, hv, rfl⟩
        obtain ⟨v', hv', hl'⟩ := hI e hel
        have hvv := hv'.uniq hv
        rw [hvv] at hl'
        have hts : l.take (e + 1) = l.take e ++ [v.length] := by rw [take_succ_getD (by omega) 0, hl']
        have htl2 : (l.take (e + 1)).length = (l.take e).length + 1 := by rw [hts]; simp
        have hvl : v.length ≤ 60 := by
          have := hv.1.length_le
          rw [List.length_take] at this; omega
        repeat' first | ((first | refine Br.dec ?_ ?_ | refine Br.eqi ?_ ?_) <;> intro h <;> try (exfalso; omega)) | (simp (disch := first | omega | (simp only [vlen]; first | done | omega)) only [vmg, ↓vAq, vBq, ↓reduceIte, Nat.reduceBEq, Nat.reduceEqDiff, Nat.reduceLT, Nat.reduceLeDiff, Nat.reduceAdd, Nat.reduceMul, Nat.reduceSub, reduceCtorEq, Int.reduceToNat]) | (refine Br.mk ?_ ?_ <;> intro h) | (refine BrN.mk (fun h => ?_) ?_) | (refine AltVC.mk ?_ ?_)
        refine loopK.mk (e + 1) (by simp (disch := first | omega | (simp only [vlen]; first | done | omega)) only [vmg, ↓vAq, vBq, ↓reduceIte, Nat.reduceBEq, Nat.reduceEqDiff, Nat.reduceLT, Nat.reduceLeDiff, Nat.reduceAdd, Nat.reduceMul, Nat.reduceSub, reduceCtorEq, Int.reduceToNat]) (by show e + 1 ≤ _; omega) (by show t.length + 1 - (e + 1) < t.length + 1 - e; omega) ?_
        rw [htl2, hts]
        (simp (disch := first | omega | (simp only [vlen]; first | done | omega)) only [Fits_u, Fits_m, Fits_nil, List.length_append, vmg, ↓vAq, vBq, ↓reduceIte, Nat.reduceBEq, Nat.reduceEqDiff, Nat.reduceLT, Nat.reduceLeDiff, Nat.reduceAdd, Nat.reduceMul, Nat.reduceSub, reduceCtorEq, Int.reduceToNat] <;> (repeat' first | rfl | apply And.intro))
        all_goals first | rfl | trace_state
      · have hee : e = t.length + 1 := by omega
        have hall : l.take e = l := List.take_of_length_le (by omega)
        rw [hall]
        have hvw : viewO (some ⟨1, i64s (natI l), true, false, .arr⟩) 1 0 l.length = .sl 1 (i64s (natI l)) := viewO_all (by simp [i64s, natI])
        have hin := intsI_spec (natI l) (natI l) (by rw [natI_len]; omega) (by rw [natI_len]; omega)
        rw [decide_eq_true rfl] at hin
        repeat' first | ((first | refine Br.dec ?_ ?_ | refine Br.eqi ?_ ?_) <;> intro h <;> try (exfalso; omega)) | (simp (disch := first | omega | (simp only [vlen]; first | done | omega)) only [hvw, vmg, ↓vAq, vBq, ↓reduceIte, Nat.reduceBEq, Nat.reduceEqDiff, Nat.reduceLT, Nat.reduceLeDiff, Nat.reduceAdd, Nat.reduceMul, Nat.reduceSub, reduceCtorEq, Int.reduceToNat]) | (refine Br.mk ?_ ?_ <;> intro h) | (refine BrN.mk (fun h => ?_) ?_) | (refine AltVC.mk ?_ ?_)
        refine CallVC.eqo hin plain_v ?_
        repeat' first | ((first | refine Br.dec ?_ ?_ | refine Br.eqi ?_ ?_) <;> intro h <;> try (exfalso; omega)) | (simp (disch := first | omega | (simp only [vlen]; first | done | omega)) only [vmg, ↓vAq, vBq, ↓reduceIte, Nat.reduceBEq, Nat.reduceEqDiff, Nat.reduceLT, Nat.reduceLeDiff, Nat.reduceAdd, Nat.reduceMul, Nat.reduceSub, reduceCtorEq, Int.reduceToNat]) | (refine Br.mk ?_ ?_ <;> intro h) | (refine BrN.mk (fun h => ?_) ?_) | (refine AltVC.mk ?_ ?_)
        exact fin_mk rfl
  · repeat' first | ((first | refine Br.dec ?_ ?_ | refine Br.eqi ?_ ?_) <;> intro h <;> try (exfalso; omega)) | (simp (disch := first | omega | (simp only [vlen]; first | done | omega)) only [vmg, ↓vAq, vBq, ↓reduceIte, Nat.reduceBEq, Nat.reduceEqDiff, Nat.reduceLT, Nat.reduceLeDiff, Nat.reduceAdd, Nat.reduceMul, Nat.reduceSub, reduceCtorEq, Int.reduceToNat]) | (refine Br.mk ?_ ?_ <;> intro h) | (refine BrN.mk (fun h => ?_) ?_) | (refine AltVC.mk ?_ ?_)
    refine CallVC.mk hf ?_
    rintro _ (⟨h, rfl⟩ | ⟨h, _⟩)
    rotate_left
    · exact absurd h hm
    repeat' first | ((first | refine Br.dec ?_ ?_ | refine Br.eqi ?_ ?_) <;> intro h <;> try (exfalso; omega)) | (simp (disch := first | omega | (simp only [vlen]; first | done | omega)) only [vmg, ↓vAq, vBq, ↓reduceIte, Nat.reduceBEq, Nat.reduceEqDiff, Nat.reduceLT, Nat.reduceLeDiff, Nat.reduceAdd, Nat.reduceMul, Nat.reduceSub, reduceCtorEq, Int.reduceToNat]) | (refine Br.mk ?_ ?_ <;> intro h) | (refine BrN.mk (fun h => ?_) ?_) | (refine AltVC.mk ?_ ?_)
    refine CallVC.eq hr ?_
    repeat' first | ((first | refine Br.dec ?_ ?_ | refine Br.eqi ?_ ?_) <;> intro h <;> try (exfalso; omega)) | (simp (disch := first | omega | (simp only [vlen]; first | done | omega)) only [vmg, ↓vAq, vBq, ↓reduceIte, Nat.reduceBEq, Nat.reduceEqDiff, Nat.reduceLT, Nat.reduceLeDiff, Nat.reduceAdd, Nat.reduceMul, Nat.reduceSub, reduceCtorEq, Int.reduceToNat]) | (refine Br.mk ?_ ?_ <;> intro h) | (refine BrN.mk (fun h => ?_) ?_) | (refine AltVC.mk ?_ ?_)
    all_goals exact fin_mk (vbEq (by simp))
end Go.Proofs.Ytdcdldfleeilnaa
