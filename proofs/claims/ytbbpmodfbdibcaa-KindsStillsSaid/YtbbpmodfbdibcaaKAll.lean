/-
  Kinds of words: kinds.all, classes.
-/
import Derived.Test.YtbbpmodfbdibcaaKindW
import Derived.Test.YtbbpmodfbdibcaaLaTell
namespace Go.Proofs.Ytbbpmodfbdibcaa
open Go.Dm
set_option linter.unusedSimpArgs false
set_option linter.unnecessarySimpa false
set_option linter.unusedVariables false
set_option linter.defProp false

theorem aD_keyP {f : Nat → Nat} (h : ∀ j, j < 7 → f j < 7) : keyP [.i64, .i64, .i64, .i64, .i64, .i64, .i64] (aD f) := by
  have e : aD f = [iv .i64 (f 0), iv .i64 (f 1), iv .i64 (f 2), iv .i64 (f 3), iv .i64 (f 4), iv .i64 (f 5), iv .i64 (f 6)] := rfl
  have h0 := h 0 (by omega); have h1 := h 1 (by omega); have h2 := h 2 (by omega); have h3 := h 3 (by omega)
  have h4 := h 4 (by omega); have h5 := h 5 (by omega); have h6 := h 6 (by omega)
  rw [e]
  simp only [iv, keyP_i64, keyP_nil, and_true]
  refine ⟨?_, ?_, ?_, ?_, ?_, ?_, ?_⟩ <;> omega
theorem aD_inj {f g : Nat → Nat} (h : aD f = aD g) : ∀ j, j < 7 → f j = g j := by
  intro j hj
  have h1 := aD_get (f := f) (i := j) (d := .junk) hj
  rw [h, aD_get hj] at h1
  injection h1 with h1
  injection h1 with _ h1
  omega
/-- What a word does, as a list of numbers. -/
def keyA (M : Dm.Machine) (n : Nat) (w : List Int) : List Nat := (List.range 7).map (ofF M n w)
theorem keyA_iff {M : Dm.Machine} {n : Nat} {x y : List Int} : keyA M n x = keyA M n y ↔ ∀ j, j < 7 → ofF M n x j = ofF M n y j := by
  unfold keyA
  constructor
  · intro h j hj
    have h1 : ((List.range 7).map (ofF M n x)).getD j 0 = ofF M n x j := by simp [List.getD, hj]
    have h2 : ((List.range 7).map (ofF M n y)).getD j 0 = ofF M n y j := by simp [List.getD, hj]
    rw [← h1, h, h2]
  · exact fun h => List.map_congr_left fun j hj => h j (List.mem_range.mp hj)
def kwD (M : Dm.Machine) (n : Nat) (w : List Int) : List D := aD (ofF M n w)
section
variable {M : Dm.Machine} {n : Nat} {w : List Int} {s : S} {τ m : Nat} {ob : Ob} {g : Nat → Nat} {ι : List Nat} {W : List (List Int)}
theorem kwD_len : (kwD M n w).length = 7 := aD_len
theorem kwD_view : (kwD M n w).map s.view = kwD M n w := aD_view
theorem kwD_kill : (kwD M n w).map (fun d => d.kill τ) = kwD M n w := aD_kill
theorem kwD_trim : (kwD M n w).map (fun d => d.trim m) = kwD M n w := aD_trim
theorem kwD_frz : (kwD M n w).map (fun d => d.frz τ ob) = kwD M n w := aD_frz
theorem kwD_keep : (kwD M n w).map (fun d => d.keep s) = kwD M n w := aD_keep
theorem kwD_ren : (kwD M n w).map (fun d => d.ren g) = kwD M n w := aD_ren
theorem kwD_lent : (kwD M n w).map (fun d => d.lent s ι) = kwD M n w := aD_lent
theorem kwD_owned : (kwD M n w).any D.owned = false := aD_owned
theorem kwD_plain : (kwD M n w).all D.plain = true := aD_plain
theorem kwD_take : (kwD M n w).take 7 = kwD M n w := aD_take
theorem kwD_drop : (kwD M n w).drop 7 = [] := aD_drop
theorem kwD_cl : (kwD M n w).all D.cl = true := aD_cl
theorem kwD_clo : (kwD M n w).all D.clo' = true := aD_clo
theorem kwD_one : (kwD M n w).all D.one = true := aD_one
theorem kwD_after {s : Nat} : aD (fun j => syF M n s (ofF M n w j)) = kwD M n (w ++ [(s : Int)]) := by
  unfold kwD
  refine aD_ext fun j _ => ?_
  unfold ofF
  rw [List.foldl_append]; rfl
theorem kwD_nil : aD (fun i => i) = kwD M n [] := (rfl)
end
theorem kwD_ag {M : Dm.Machine} {n : Nat} {W : List (List Int)} {i : Nat} : ((tbl (kwD M n) W).getD i []) = ((tbl (kwD M n) W).getD i []) := rfl
def vkw := And.intro @kwD_len <| And.intro @kwD_view <| And.intro @kwD_kill <| And.intro @kwD_trim <| And.intro @kwD_frz <| And.intro @kwD_keep <| And.intro @kwD_ren <| And.intro @kwD_lent <| And.intro @kwD_owned <| And.intro @kwD_plain <| And.intro @kwD_take <| And.intro @kwD_drop <| And.intro @kwD_cl <| And.intro @kwD_clo <| And.intro @kwD_one <| And.intro @kwD_after vad
set_option maxRecDepth 10000 in
set_option maxHeartbeats 4000000 in
theorem act1_spec (f g : Nat → Nat) (hf : ∀ j, j < 7 → f j < 7) (hg : ∀ j, j < 7 → g j < 7) (b : Bool) (hb : b = true ↔ ∀ j, j < 7 → f j = g j) : Dm.Spec Try.prog 73 [.ag (aD f), .ip (aD g) 0] (· = .v (.bool b)) := by
  refine spec_of_vc mixed Try.func73 c73 (by rw [show Try.f73.ntmps = _ from Try.ntmps73]; simp) ?_
  unfold m73 r73
  repeat' first | (refine Br.dec (fun h => ?_) (fun h => ?_) <;> try (exfalso; omega)) | (refine Br.eqi (fun h => ?_) (fun h => ?_) <;> try (exfalso; omega)) | (simp (disch := (first | omega | (simp only [List.length_cons, List.length_nil, List.length_append, List.length_map, List.length_replicate, List.length_take, List.length_drop, List.length_set, tab_length, tabD_len, i64s_len, bls_len, u8s_len, tbl_len, rows_len]; first | done | omega))) only [vad, ↓va0, ↓va1, ↓va2, ↓va3, vb0, vb1, vb2, vb3, vb4, vb5, vb6, vb7, vb8, vb9, vb10, vz0, vz1, vy0, vx0, ↓reduceIte, Nat.reduceBEq, Nat.reduceEqDiff, Nat.reduceLT, Nat.reduceLeDiff, Nat.reduceAdd, Nat.reduceMul, Nat.reduceSub, reduceCtorEq, Int.reduceToNat]) | (refine Br.mk (fun h => ?_) (fun h => ?_)) | (refine BrN.mk (fun h => ?_) ?_) | (refine AltVC.mk ?_ ?_)
  refine Chk.mk ⟨aD_keyP hg, aD_keyP hf⟩ ?_
  refine BrE.mk (fun h => ?_) (fun h => ?_)
  · repeat' first | (refine Br.dec (fun h => ?_) (fun h => ?_) <;> try (exfalso; omega)) | (refine Br.eqi (fun h => ?_) (fun h => ?_) <;> try (exfalso; omega)) | (simp (disch := (first | omega | (simp only [List.length_cons, List.length_nil, List.length_append, List.length_map, List.length_replicate, List.length_take, List.length_drop, List.length_set, tab_length, tabD_len, i64s_len, bls_len, u8s_len, tbl_len, rows_len]; first | done | omega))) only [vad, ↓va0, ↓va1, ↓va2, ↓va3, vb0, vb1, vb2, vb3, vb4, vb5, vb6, vb7, vb8, vb9, vb10, vz0, vz1, vy0, vx0, ↓reduceIte, Nat.reduceBEq, Nat.reduceEqDiff, Nat.reduceLT, Nat.reduceLeDiff, Nat.reduceAdd, Nat.reduceMul, Nat.reduceSub, reduceCtorEq, Int.reduceToNat]) | (refine Br.mk (fun h => ?_) (fun h => ?_)) | (refine BrN.mk (fun h => ?_) ?_) | (refine AltVC.mk ?_ ?_)
    exact fin_mk (vbEq (hb.mpr fun j hj => (aD_inj h j hj).symm).symm)
  · repeat' first | (refine Br.dec (fun h => ?_) (fun h => ?_) <;> try (exfalso; omega)) | (refine Br.eqi (fun h => ?_) (fun h => ?_) <;> try (exfalso; omega)) | (simp (disch := (first | omega | (simp only [List.length_cons, List.length_nil, List.length_append, List.length_map, List.length_replicate, List.length_take, List.length_drop, List.length_set, tab_length, tabD_len, i64s_len, bls_len, u8s_len, tbl_len, rows_len]; first | done | omega))) only [vad, ↓va0, ↓va1, ↓va2, ↓va3, vb0, vb1, vb2, vb3, vb4, vb5, vb6, vb7, vb8, vb9, vb10, vz0, vz1, vy0, vx0, ↓reduceIte, Nat.reduceBEq, Nat.reduceEqDiff, Nat.reduceLT, Nat.reduceLeDiff, Nat.reduceAdd, Nat.reduceMul, Nat.reduceSub, reduceCtorEq, Int.reduceToNat]) | (refine Br.mk (fun h => ?_) (fun h => ?_)) | (refine BrN.mk (fun h => ?_) ?_) | (refine AltVC.mk ?_ ?_)
    exact fin_mk (vbEq (Bool.eq_false_iff.mpr fun h2 => h (aD_ext fun j hj => (hb.mp h2 j hj).symm)).symm)
set_option maxRecDepth 10000 in
set_option maxHeartbeats 4000000 in
theorem idxF_act (M : Dm.Machine) (n : Nat) (l : List (List Int)) (p : List Int → Bool) (f : FuncId) (ds : List D) (hl : l.length ≤ 9223372036854775807) (hd : ds.all D.cl = true) (hp : ∀ a, a ∈ l → Dm.Spec Try.prog f (.ag (kwD M n a) :: ds) (· = .v (.bool (p a)))) : Dm.Spec Try.prog 74 [.sl 7 (tbl (kwD M n) l), .clo f ds] (· = .v (.int .i64 (idxOf p l))) := by
  refine spec_of_vc mixed Try.func74 c74 (by rw [show Try.f74.ntmps = _ from Try.ntmps74]; simp) ?_
  unfold m74 r74
  repeat' first | (refine Br.dec (fun h => ?_) (fun h => ?_) <;> try (exfalso; omega)) | (refine Br.eqi (fun h => ?_) (fun h => ?_) <;> try (exfalso; omega)) | (simp (disch := (first | omega | (simp only [List.length_cons, List.length_nil, List.length_append, List.length_map, List.length_replicate, List.length_take, List.length_drop, List.length_set, tab_length, tabD_len, i64s_len, bls_len, u8s_len, tbl_len, rows_len]; first | done | omega))) only [vkw, ↓va0, ↓va1, ↓va2, ↓va3, vb0, vb1, vb2, vb3, vb4, vb5, vb6, vb7, vb8, vb9, vb10, vz0, vz1, vy0, vx0, ↓reduceIte, Nat.reduceBEq, Nat.reduceEqDiff, Nat.reduceLT, Nat.reduceLeDiff, Nat.reduceAdd, Nat.reduceMul, Nat.reduceSub, reduceCtorEq, Int.reduceToNat]) | (refine Br.mk (fun h => ?_) (fun h => ?_)) | (refine BrN.mk (fun h => ?_) ?_) | (refine AltVC.mk ?_ ?_)
  refine LoopVC.mk (X := Nat) (fun i => [(1, .clo f ds), (8, iv .i64 i)]) (fun _ => []) (fun i => l.length - i) (fun i => i ≤ l.length ∧ ∀ j, j < i → p (l.getD j default) = false) 0 ⟨by omega, by omega⟩ ?_ ?_
  · (simp (disch := (first | omega | (simp only [List.length_cons, List.length_nil, List.length_append, List.length_map, List.length_replicate, List.length_take, List.length_drop, List.length_set, tab_length, tabD_len, i64s_len, bls_len, u8s_len, tbl_len, rows_len]; first | done | omega))) only [Fits_u, Fits_m, Fits_nil, List.length_append, vkw, ↓va0, ↓va1, ↓va2, ↓va3, vb0, vb1, vb2, vb3, vb4, vb5, vb6, vb7, vb8, vb9, vb10, vz0, vz1, vy0, vx0, ↓reduceIte, Nat.reduceBEq, Nat.reduceEqDiff, Nat.reduceLT, Nat.reduceLeDiff, Nat.reduceAdd, Nat.reduceMul, Nat.reduceSub, reduceCtorEq, Int.reduceToNat] <;> (repeat' first | rfl | apply And.intro))
  · rintro i ⟨hi, hn⟩
    repeat' first | (refine Br.dec (fun h => ?_) (fun h => ?_) <;> try (exfalso; omega)) | (refine Br.eqi (fun h => ?_) (fun h => ?_) <;> try (exfalso; omega)) | (simp (disch := (first | omega | (simp only [List.length_cons, List.length_nil, List.length_append, List.length_map, List.length_replicate, List.length_take, List.length_drop, List.length_set, tab_length, tabD_len, i64s_len, bls_len, u8s_len, tbl_len, rows_len]; first | done | omega))) only [vkw, ↓va0, ↓va1, ↓va2, ↓va3, vb0, vb1, vb2, vb3, vb4, vb5, vb6, vb7, vb8, vb9, vb10, vz0, vz1, vy0, vx0, ↓reduceIte, Nat.reduceBEq, Nat.reduceEqDiff, Nat.reduceLT, Nat.reduceLeDiff, Nat.reduceAdd, Nat.reduceMul, Nat.reduceSub, reduceCtorEq, Int.reduceToNat]) | (refine Br.mk (fun h => ?_) (fun h => ?_)) | (refine BrN.mk (fun h => ?_) ?_) | (refine AltVC.mk ?_ ?_)
    · rw [cl_views hd, cl_owned hd]
      refine CallVC.eq (hp (l.getD i default) (getD_mem' (by omega))) ?_
      repeat' first | (refine Br.dec (fun h => ?_) (fun h => ?_) <;> try (exfalso; omega)) | (refine Br.eqi (fun h => ?_) (fun h => ?_) <;> try (exfalso; omega)) | (simp (disch := (first | omega | (simp only [List.length_cons, List.length_nil, List.length_append, List.length_map, List.length_replicate, List.length_take, List.length_drop, List.length_set, tab_length, tabD_len, i64s_len, bls_len, u8s_len, tbl_len, rows_len]; first | done | omega))) only [vkw, ↓va0, ↓va1, ↓va2, ↓va3, vb0, vb1, vb2, vb3, vb4, vb5, vb6, vb7, vb8, vb9, vb10, vz0, vz1, vy0, vx0, ↓reduceIte, Nat.reduceBEq, Nat.reduceEqDiff, Nat.reduceLT, Nat.reduceLeDiff, Nat.reduceAdd, Nat.reduceMul, Nat.reduceSub, reduceCtorEq, Int.reduceToNat]) | (refine Br.mk (fun h => ?_) (fun h => ?_)) | (refine BrN.mk (fun h => ?_) ?_) | (refine AltVC.mk ?_ ?_)
      · refine fin_mk (viEq ?_)
        rw [idxOf_hit (by omega) (by assumption) hn]
      · refine loopK.mk (i + 1) (by simp (disch := (first | omega | (simp only [List.length_cons, List.length_nil, List.length_append, List.length_map, List.length_replicate, List.length_take, List.length_drop, List.length_set, tab_length, tabD_len, i64s_len, bls_len, u8s_len, tbl_len, rows_len]; first | done | omega))) only [↓va0, ↓va1, ↓va2, ↓va3, vb0, vb1, vb2, vb3, vb4, vb5, vb6, vb7, vb8, vb9, vb10, vz0, vz1, vy0, vx0, ↓reduceIte, Nat.reduceBEq, Nat.reduceEqDiff, Nat.reduceLT, Nat.reduceLeDiff, Nat.reduceAdd, Nat.reduceMul, Nat.reduceSub, reduceCtorEq, Int.reduceToNat]) ⟨by omega, fun j hj => ?_⟩ (by omega) ?_
        · by_cases e : j = i
          · subst e; assumption
          · exact hn j (by omega)
        · (simp (disch := (first | omega | (simp only [List.length_cons, List.length_nil, List.length_append, List.length_map, List.length_replicate, List.length_take, List.length_drop, List.length_set, tab_length, tabD_len, i64s_len, bls_len, u8s_len, tbl_len, rows_len]; first | done | omega))) only [Fits_u, Fits_m, Fits_nil, List.length_append, vkw, ↓va0, ↓va1, ↓va2, ↓va3, vb0, vb1, vb2, vb3, vb4, vb5, vb6, vb7, vb8, vb9, vb10, vz0, vz1, vy0, vx0, ↓reduceIte, Nat.reduceBEq, Nat.reduceEqDiff, Nat.reduceLT, Nat.reduceLeDiff, Nat.reduceAdd, Nat.reduceMul, Nat.reduceSub, reduceCtorEq, Int.reduceToNat] <;> (repeat' first | rfl | apply And.intro))
          rw [cl_trims hd]
    · refine fin_mk (viEq ?_)
      rw [idxOf_miss (by omega) hn]
set_option maxRecDepth 10000 in
set_option maxHeartbeats 4000000 in
theorem conF_act (M : Dm.Machine) (n : Nat) (l : List (List Int)) (p : List Int → Bool) (f : FuncId) (ds : List D) (hl : l.length ≤ 9223372036854775807) (hd : ds.all D.cl = true) (hp : ∀ a, a ∈ l → Dm.Spec Try.prog f (.ag (kwD M n a) :: ds) (· = .v (.bool (p a)))) : Dm.Spec Try.prog 72 [.sl 7 (tbl (kwD M n) l), .clo f ds] (· = .v (.bool (l.any p))) := by
  refine spec_of_vc mixed Try.func72 c72 (by rw [show Try.f72.ntmps = _ from Try.ntmps72]; simp) ?_
  unfold m72 r72
  repeat' first | (refine Br.dec (fun h => ?_) (fun h => ?_) <;> try (exfalso; omega)) | (refine Br.eqi (fun h => ?_) (fun h => ?_) <;> try (exfalso; omega)) | (simp (disch := (first | omega | (simp only [List.length_cons, List.length_nil, List.length_append, List.length_map, List.length_replicate, List.length_take, List.length_drop, List.length_set, tab_length, tabD_len, i64s_len, bls_len, u8s_len, tbl_len, rows_len]; first | done | omega))) only [vkw, ↓va0, ↓va1, ↓va2, ↓va3, vb0, vb1, vb2, vb3, vb4, vb5, vb6, vb7, vb8, vb9, vb10, vz0, vz1, vy0, vx0, ↓reduceIte, Nat.reduceBEq, Nat.reduceEqDiff, Nat.reduceLT, Nat.reduceLeDiff, Nat.reduceAdd, Nat.reduceMul, Nat.reduceSub, reduceCtorEq, Int.reduceToNat]) | (refine Br.mk (fun h => ?_) (fun h => ?_)) | (refine BrN.mk (fun h => ?_) ?_) | (refine AltVC.mk ?_ ?_)
  rw [cl_views hd, cl_owned hd]
  refine CallVC.eq (idxF_act M n l p f ds hl hd hp) ?_
  repeat' first | (refine Br.dec (fun h => ?_) (fun h => ?_) <;> try (exfalso; omega)) | (refine Br.eqi (fun h => ?_) (fun h => ?_) <;> try (exfalso; omega)) | (simp (disch := (first | omega | (simp only [List.length_cons, List.length_nil, List.length_append, List.length_map, List.length_replicate, List.length_take, List.length_drop, List.length_set, tab_length, tabD_len, i64s_len, bls_len, u8s_len, tbl_len, rows_len]; first | done | omega))) only [vkw, ↓va0, ↓va1, ↓va2, ↓va3, vb0, vb1, vb2, vb3, vb4, vb5, vb6, vb7, vb8, vb9, vb10, vz0, vz1, vy0, vx0, ↓reduceIte, Nat.reduceBEq, Nat.reduceEqDiff, Nat.reduceLT, Nat.reduceLeDiff, Nat.reduceAdd, Nat.reduceMul, Nat.reduceSub, reduceCtorEq, Int.reduceToNat]) | (refine Br.mk (fun h => ?_) (fun h => ?_)) | (refine BrN.mk (fun h => ?_) ?_) | (refine AltVC.mk ?_ ?_)
  exact fin_mk (vbEq idxOf_geq)
theorem kset0 {β : Type} [DecidableEq β] {key : List Int → β} {K : Nat} : kSet key K 0 = [[]] := (rfl)
def allO (M : Dm.Machine) (n K : Nat) (W : List (List Int)) : List (Nat × Ob) := [(0, ⟨5, [mk5 n K M.next M.start M.final], true, false, .fix⟩), (2, ⟨7, tbl (kwD M n) W, true, false, .arr⟩)]
def allR (M : Dm.Machine) (n K : Nat) : D := if (kW (keyA M n) K).length ≤ 100 then .tu [.sl 7 (tbl (kwD M n) (kW (keyA M n) K)), .v (.bool true)] else .tu [.sl 7 [], .v (.bool false)]
set_option maxRecDepth 10000 in
set_option maxHeartbeats 4000000 in
theorem all_spec (M : Dm.Machine) (hv : WM M) (n K : Nat) (hN : M.n = n) (hK : M.k = K) (hN7 : n ≤ 7) : Dm.Spec Try.prog 69 [.ag (mk5 n K M.next M.start M.final)] (· = allR M n K) := by
  refine spec_of_vc mixed Try.func69 c69 (by rw [show Try.f69.ntmps = _ from Try.ntmps69]; simp) ?_
  unfold m69 r69
  have hk := hv.k
  repeat' first | (refine Br.dec (fun h => ?_) (fun h => ?_) <;> try (exfalso; omega)) | (refine Br.eqi (fun h => ?_) (fun h => ?_) <;> try (exfalso; omega)) | (simp (disch := (first | omega | (simp only [List.length_cons, List.length_nil, List.length_append, List.length_map, List.length_replicate, List.length_take, List.length_drop, List.length_set, tab_length, tabD_len, i64s_len, bls_len, u8s_len, tbl_len, rows_len]; first | done | omega))) only [vkw, ↓va0, ↓va1, ↓va2, ↓va3, vb0, vb1, vb2, vb3, vb4, vb5, vb6, vb7, vb8, vb9, vb10, vz0, vz1, vy0, vx0, ↓reduceIte, Nat.reduceBEq, Nat.reduceEqDiff, Nat.reduceLT, Nat.reduceLeDiff, Nat.reduceAdd, Nat.reduceMul, Nat.reduceSub, reduceCtorEq, Int.reduceToNat]) | (refine Br.mk (fun h => ?_) (fun h => ?_)) | (refine BrN.mk (fun h => ?_) ?_) | (refine AltVC.mk ?_ ?_)
  refine CallVC.eq (krest_spec ()) ?_
  repeat' first | (refine Br.dec (fun h => ?_) (fun h => ?_) <;> try (exfalso; omega)) | (refine Br.eqi (fun h => ?_) (fun h => ?_) <;> try (exfalso; omega)) | (simp (disch := (first | omega | (simp only [List.length_cons, List.length_nil, List.length_append, List.length_map, List.length_replicate, List.length_take, List.length_drop, List.length_set, tab_length, tabD_len, i64s_len, bls_len, u8s_len, tbl_len, rows_len]; first | done | omega))) only [vkw, ↓va0, ↓va1, ↓va2, ↓va3, vb0, vb1, vb2, vb3, vb4, vb5, vb6, vb7, vb8, vb9, vb10, vz0, vz1, vy0, vx0, ↓reduceIte, Nat.reduceBEq, Nat.reduceEqDiff, Nat.reduceLT, Nat.reduceLeDiff, Nat.reduceAdd, Nat.reduceMul, Nat.reduceSub, reduceCtorEq, Int.reduceToNat]) | (refine Br.mk (fun h => ?_) (fun h => ?_)) | (refine BrN.mk (fun h => ?_) ?_) | (refine AltVC.mk ?_ ?_)
  refine LoopVC.mk (X := Nat) (fun i => [(4, .ref 2 7 0 (kSet (keyA M n) K i).length), (5, iv .i64 i)]) (fun i => allO M n K (kSet (keyA M n) K i)) (fun i => 102 - i) (fun i => i ≤ (kSet (keyA M n) K i).length ∧ (kSet (keyA M n) K i).length ≤ 100 ∧ kGo (keyA M n) K (102 - i) i = kGo (keyA M n) K 102 0) 0 ⟨by omega, by simp [kSet], rfl⟩ ?_ ?_
  · rw [kwD_nil]
    unfold allO
    (simp (disch := (first | omega | (simp only [List.length_cons, List.length_nil, List.length_append, List.length_map, List.length_replicate, List.length_take, List.length_drop, List.length_set, tab_length, tabD_len, i64s_len, bls_len, u8s_len, tbl_len, rows_len]; first | done | omega))) only [Fits_u, Fits_m, Fits_nil, List.length_append, vkw, kset0, ↓va0, ↓va1, ↓va2, ↓va3, vb0, vb1, vb2, vb3, vb4, vb5, vb6, vb7, vb8, vb9, vb10, vz0, vz1, vy0, vx0, ↓reduceIte, Nat.reduceBEq, Nat.reduceEqDiff, Nat.reduceLT, Nat.reduceLeDiff, Nat.reduceAdd, Nat.reduceMul, Nat.reduceSub, reduceCtorEq, Int.reduceToNat] <;> (repeat' first | rfl | apply And.intro))
    all_goals first | rfl | trace_state
  · rintro i ⟨hi, hl, hg⟩
    unfold allO
    by_cases hil : i < (kSet (keyA M n) K i).length
    · repeat' first | (refine Br.dec (fun h => ?_) (fun h => ?_) <;> try (exfalso; omega)) | (refine Br.eqi (fun h => ?_) (fun h => ?_) <;> try (exfalso; omega)) | (simp (disch := (first | omega | (simp only [List.length_cons, List.length_nil, List.length_append, List.length_map, List.length_replicate, List.length_take, List.length_drop, List.length_set, tab_length, tabD_len, i64s_len, bls_len, u8s_len, tbl_len, rows_len]; first | done | omega))) only [vkw, ↓va0, ↓va1, ↓va2, ↓va3, vb0, vb1, vb2, vb3, vb4, vb5, vb6, vb7, vb8, vb9, vb10, vz0, vz1, vy0, vx0, ↓reduceIte, Nat.reduceBEq, Nat.reduceEqDiff, Nat.reduceLT, Nat.reduceLeDiff, Nat.reduceAdd, Nat.reduceMul, Nat.reduceSub, reduceCtorEq, Int.reduceToNat]) | (refine Br.mk (fun h => ?_) (fun h => ?_)) | (refine BrN.mk (fun h => ?_) ?_) | (refine AltVC.mk ?_ ?_)
      obtain ⟨w0, hw0⟩ : ∃ w0, (kSet (keyA M n) K i).getD i [] = w0 := ⟨_, rfl⟩
      refine LoopVC.mk (X := Nat) (fun s => [(4, .ref 2 7 0 (kFor (keyA M n) w0 s (kSet (keyA M n) K i)).length), (18, iv .i64 s)]) (fun s => allO M n K (kFor (keyA M n) w0 s (kSet (keyA M n) K i))) (fun s => K - s) (fun s => s ≤ K) 0 (by omega) ?_ ?_
      · unfold allO
        (simp (disch := (first | omega | (simp only [List.length_cons, List.length_nil, List.length_append, List.length_map, List.length_replicate, List.length_take, List.length_drop, List.length_set, tab_length, tabD_len, i64s_len, bls_len, u8s_len, tbl_len, rows_len]; first | done | omega))) only [Fits_u, Fits_m, Fits_nil, List.length_append, vkw, ↓va0, ↓va1, ↓va2, ↓va3, vb0, vb1, vb2, vb3, vb4, vb5, vb6, vb7, vb8, vb9, vb10, vz0, vz1, vy0, vx0, ↓reduceIte, Nat.reduceBEq, Nat.reduceEqDiff, Nat.reduceLT, Nat.reduceLeDiff, Nat.reduceAdd, Nat.reduceMul, Nat.reduceSub, reduceCtorEq, Int.reduceToNat] <;> (repeat' first | rfl | apply And.intro))
        all_goals trace_state
      · intro s hs
        unfold allO
        by_cases hsK : s < K
        · have hfl := @kFor_len _ _ (keyA M n) w0 (kSet (keyA M n) K i) s
          have hfp := (kFor_pre (key := keyA M n) (w0 := w0) (W := kSet (keyA M n) K i) (s := 0) (t := s) (Nat.zero_le _)).length_le
          have hfp2 : (kSet (keyA M n) K i).length ≤ (kFor (keyA M n) w0 s (kSet (keyA M n) K i)).length := hfp
          have hg1 : (kFor (keyA M n) w0 s (kSet (keyA M n) K i)).getD i default = w0 := by rw [← hw0]; exact kFor_get hil
          have hSy := ksymbol_spec M hv n K s hN hK hN7 hsK
          have hAf := kafter_spec (ofF M n w0) (syF M n s) (fun j hj => ofF_lt hv hN hN7 hj) (fun j hj => syF_lt hv hN hN7 hj)
          rw [show aD (ofF M n w0) = kwD M n w0 from rfl, kwD_after] at hAf
          repeat' first | (refine Br.dec (fun h => ?_) (fun h => ?_) <;> try (exfalso; omega)) | (refine Br.eqi (fun h => ?_) (fun h => ?_) <;> try (exfalso; omega)) | (simp (disch := (first | omega | (simp only [List.length_cons, List.length_nil, List.length_append, List.length_map, List.length_replicate, List.length_take, List.length_drop, List.length_set, tab_length, tabD_len, i64s_len, bls_len, u8s_len, tbl_len, rows_len]; first | done | omega))) only [vkw, hg1, ↓va0, ↓va1, ↓va2, ↓va3, vb0, vb1, vb2, vb3, vb4, vb5, vb6, vb7, vb8, vb9, vb10, vz0, vz1, vy0, vx0, ↓reduceIte, Nat.reduceBEq, Nat.reduceEqDiff, Nat.reduceLT, Nat.reduceLeDiff, Nat.reduceAdd, Nat.reduceMul, Nat.reduceSub, reduceCtorEq, Int.reduceToNat]) | (refine Br.mk (fun h => ?_) (fun h => ?_)) | (refine BrN.mk (fun h => ?_) ?_) | (refine AltVC.mk ?_ ?_)
          refine DrawVC.u ?_
          repeat' first | (refine Br.dec (fun h => ?_) (fun h => ?_) <;> try (exfalso; omega)) | (refine Br.eqi (fun h => ?_) (fun h => ?_) <;> try (exfalso; omega)) | (simp (disch := (first | omega | (simp only [List.length_cons, List.length_nil, List.length_append, List.length_map, List.length_replicate, List.length_take, List.length_drop, List.length_set, tab_length, tabD_len, i64s_len, bls_len, u8s_len, tbl_len, rows_len]; first | done | omega))) only [vkw, hg1, ↓va0, ↓va1, ↓va2, ↓va3, vb0, vb1, vb2, vb3, vb4, vb5, vb6, vb7, vb8, vb9, vb10, vz0, vz1, vy0, vx0, ↓reduceIte, Nat.reduceBEq, Nat.reduceEqDiff, Nat.reduceLT, Nat.reduceLeDiff, Nat.reduceAdd, Nat.reduceMul, Nat.reduceSub, reduceCtorEq, Int.reduceToNat]) | (refine Br.mk (fun h => ?_) (fun h => ?_)) | (refine BrN.mk (fun h => ?_) ?_) | (refine AltVC.mk ?_ ?_)
          all_goals repeat' first
            | (refine CallP.eq hSy (by simp) ?_
               repeat' first | (refine Br.dec (fun h => ?_) (fun h => ?_) <;> try (exfalso; omega)) | (refine Br.eqi (fun h => ?_) (fun h => ?_) <;> try (exfalso; omega)) | (simp (disch := (first | omega | (simp only [List.length_cons, List.length_nil, List.length_append, List.length_map, List.length_replicate, List.length_take, List.length_drop, List.length_set, tab_length, tabD_len, i64s_len, bls_len, u8s_len, tbl_len, rows_len]; first | done | omega))) only [vkw, hg1, ↓va0, ↓va1, ↓va2, ↓va3, vb0, vb1, vb2, vb3, vb4, vb5, vb6, vb7, vb8, vb9, vb10, vz0, vz1, vy0, vx0, ↓reduceIte, Nat.reduceBEq, Nat.reduceEqDiff, Nat.reduceLT, Nat.reduceLeDiff, Nat.reduceAdd, Nat.reduceMul, Nat.reduceSub, reduceCtorEq, Int.reduceToNat]) | (refine Br.mk (fun h => ?_) (fun h => ?_)) | (refine BrN.mk (fun h => ?_) ?_) | (refine AltVC.mk ?_ ?_))
            | (refine CallP.eq hAf (by simp) ?_
               repeat' first | (refine Br.dec (fun h => ?_) (fun h => ?_) <;> try (exfalso; omega)) | (refine Br.eqi (fun h => ?_) (fun h => ?_) <;> try (exfalso; omega)) | (simp (disch := (first | omega | (simp only [List.length_cons, List.length_nil, List.length_append, List.length_map, List.length_replicate, List.length_take, List.length_drop, List.length_set, tab_length, tabD_len, i64s_len, bls_len, u8s_len, tbl_len, rows_len]; first | done | omega))) only [vkw, hg1, ↓va0, ↓va1, ↓va2, ↓va3, vb0, vb1, vb2, vb3, vb4, vb5, vb6, vb7, vb8, vb9, vb10, vz0, vz1, vy0, vx0, ↓reduceIte, Nat.reduceBEq, Nat.reduceEqDiff, Nat.reduceLT, Nat.reduceLeDiff, Nat.reduceAdd, Nat.reduceMul, Nat.reduceSub, reduceCtorEq, Int.reduceToNat]) | (refine Br.mk (fun h => ?_) (fun h => ?_)) | (refine BrN.mk (fun h => ?_) ?_) | (refine AltVC.mk ?_ ?_))
          all_goals
            refine CallVC.eqo (conF_act M n (kFor (keyA M n) w0 s (kSet (keyA M n) K i)) (fun x => decide (keyA M n x = keyA M n (w0 ++ [(s : Int)]))) _ [.ip (kwD M n (w0 ++ [(s : Int)])) 0] (by omega) (by simp (disch := (first | omega | (simp only [List.length_cons, List.length_nil, List.length_append, List.length_map, List.length_replicate, List.length_take, List.length_drop, List.length_set, tab_length, tabD_len, i64s_len, bls_len, u8s_len, tbl_len, rows_len]; first | done | omega))) only [vkw, ↓va0, ↓va1, ↓va2, ↓va3, vb0, vb1, vb2, vb3, vb4, vb5, vb6, vb7, vb8, vb9, vb10, vz0, vz1, vy0, vx0, ↓reduceIte, Nat.reduceBEq, Nat.reduceEqDiff, Nat.reduceLT, Nat.reduceLeDiff, Nat.reduceAdd, Nat.reduceMul, Nat.reduceSub, reduceCtorEq, Int.reduceToNat]) fun x hx => act1_spec (ofF M n x) (ofF M n (w0 ++ [(s : Int)])) (fun j hj => ofF_lt hv hN hN7 hj) (fun j hj => ofF_lt hv hN hN7 hj) _ (by rw [decide_eq_true_eq]; exact keyA_iff)) (by simp (disch := (first | omega | (simp only [List.length_cons, List.length_nil, List.length_append, List.length_map, List.length_replicate, List.length_take, List.length_drop, List.length_set, tab_length, tabD_len, i64s_len, bls_len, u8s_len, tbl_len, rows_len]; first | done | omega))) only [vkw, ↓va0, ↓va1, ↓va2, ↓va3, vb0, vb1, vb2, vb3, vb4, vb5, vb6, vb7, vb8, vb9, vb10, vz0, vz1, vy0, vx0, ↓reduceIte, Nat.reduceBEq, Nat.reduceEqDiff, Nat.reduceLT, Nat.reduceLeDiff, Nat.reduceAdd, Nat.reduceMul, Nat.reduceSub, reduceCtorEq, Int.reduceToNat]) ?_
            repeat' first | (refine Br.dec (fun h => ?_) (fun h => ?_) <;> try (exfalso; omega)) | (refine Br.eqi (fun h => ?_) (fun h => ?_) <;> try (exfalso; omega)) | (simp (disch := (first | omega | (simp only [List.length_cons, List.length_nil, List.length_append, List.length_map, List.length_replicate, List.length_take, List.length_drop, List.length_set, tab_length, tabD_len, i64s_len, bls_len, u8s_len, tbl_len, rows_len]; first | done | omega))) only [vkw, ↓va0, ↓va1, ↓va2, ↓va3, vb0, vb1, vb2, vb3, vb4, vb5, vb6, vb7, vb8, vb9, vb10, vz0, vz1, vy0, vx0, ↓reduceIte, Nat.reduceBEq, Nat.reduceEqDiff, Nat.reduceLT, Nat.reduceLeDiff, Nat.reduceAdd, Nat.reduceMul, Nat.reduceSub, reduceCtorEq, Int.reduceToNat]) | (refine Br.mk (fun h => ?_) (fun h => ?_)) | (refine BrN.mk (fun h => ?_) ?_) | (refine AltVC.mk ?_ ?_)
          all_goals first
            | (have eA : kFor (keyA M n) w0 (s + 1) (kSet (keyA M n) K i) = kFor (keyA M n) w0 s (kSet (keyA M n) K i) := if_pos (by assumption)
               refine loopK.mk (s + 1) (by simp (disch := (first | omega | (simp only [List.length_cons, List.length_nil, List.length_append, List.length_map, List.length_replicate, List.length_take, List.length_drop, List.length_set, tab_length, tabD_len, i64s_len, bls_len, u8s_len, tbl_len, rows_len]; first | done | omega))) only [↓va0, ↓va1, ↓va2, ↓va3, vb0, vb1, vb2, vb3, vb4, vb5, vb6, vb7, vb8, vb9, vb10, vz0, vz1, vy0, vx0, ↓reduceIte, Nat.reduceBEq, Nat.reduceEqDiff, Nat.reduceLT, Nat.reduceLeDiff, Nat.reduceAdd, Nat.reduceMul, Nat.reduceSub, reduceCtorEq, Int.reduceToNat]) (by omega) (by omega) ?_
               rw [eA]
               (simp (disch := (first | omega | (simp only [List.length_cons, List.length_nil, List.length_append, List.length_map, List.length_replicate, List.length_take, List.length_drop, List.length_set, tab_length, tabD_len, i64s_len, bls_len, u8s_len, tbl_len, rows_len]; first | done | omega))) only [Fits_u, Fits_m, Fits_nil, List.length_append, vkw, ↓va0, ↓va1, ↓va2, ↓va3, vb0, vb1, vb2, vb3, vb4, vb5, vb6, vb7, vb8, vb9, vb10, vz0, vz1, vy0, vx0, ↓reduceIte, Nat.reduceBEq, Nat.reduceEqDiff, Nat.reduceLT, Nat.reduceLeDiff, Nat.reduceAdd, Nat.reduceMul, Nat.reduceSub, reduceCtorEq, Int.reduceToNat] <;> (repeat' first | rfl | apply And.intro))
               done)
            | (have eA : kFor (keyA M n) w0 (s + 1) (kSet (keyA M n) K i) = kFor (keyA M n) w0 s (kSet (keyA M n) K i) ++ [w0 ++ [(s : Int)]] := if_neg (Bool.eq_false_iff.mp (by assumption))
               refine loopK.mk (s + 1) (by simp (disch := (first | omega | (simp only [List.length_cons, List.length_nil, List.length_append, List.length_map, List.length_replicate, List.length_take, List.length_drop, List.length_set, tab_length, tabD_len, i64s_len, bls_len, u8s_len, tbl_len, rows_len]; first | done | omega))) only [↓va0, ↓va1, ↓va2, ↓va3, vb0, vb1, vb2, vb3, vb4, vb5, vb6, vb7, vb8, vb9, vb10, vz0, vz1, vy0, vx0, ↓reduceIte, Nat.reduceBEq, Nat.reduceEqDiff, Nat.reduceLT, Nat.reduceLeDiff, Nat.reduceAdd, Nat.reduceMul, Nat.reduceSub, reduceCtorEq, Int.reduceToNat]) (by omega) (by omega) ?_
               rw [eA, tbl_app, List.length_append, List.length_singleton]
               (simp (disch := (first | omega | (simp only [List.length_cons, List.length_nil, List.length_append, List.length_map, List.length_replicate, List.length_take, List.length_drop, List.length_set, tab_length, tabD_len, i64s_len, bls_len, u8s_len, tbl_len, rows_len]; first | done | omega))) only [Fits_u, Fits_m, Fits_nil, List.length_append, vkw, ↓va0, ↓va1, ↓va2, ↓va3, vb0, vb1, vb2, vb3, vb4, vb5, vb6, vb7, vb8, vb9, vb10, vz0, vz1, vy0, vx0, ↓reduceIte, Nat.reduceBEq, Nat.reduceEqDiff, Nat.reduceLT, Nat.reduceLeDiff, Nat.reduceAdd, Nat.reduceMul, Nat.reduceSub, reduceCtorEq, Int.reduceToNat] <;> (repeat' first | rfl | apply And.intro))
               done)
        · have es : s = K := by omega
          have e1 : kFor (keyA M n) w0 s (kSet (keyA M n) K i) = kSet (keyA M n) K (i + 1) := by rw [es, ← hw0]; rfl
          have hfl := @kFor_len _ _ (keyA M n) w0 (kSet (keyA M n) K i) s
          have hfp := (kSet_pre (key := keyA M n) (K := K) (i := i) (j := i + 1) (by omega)).length_le
          rw [e1] at hfl
          rw [e1]
          have hi101 : i ≤ 101 := by omega
          rw [show 102 - i = (101 - i) + 1 by omega, kGo_in hil hl] at hg
          repeat' first | (refine Br.dec (fun h => ?_) (fun h => ?_) <;> try (exfalso; omega)) | (refine Br.eqi (fun h => ?_) (fun h => ?_) <;> try (exfalso; omega)) | (simp (disch := (first | omega | (simp only [List.length_cons, List.length_nil, List.length_append, List.length_map, List.length_replicate, List.length_take, List.length_drop, List.length_set, tab_length, tabD_len, i64s_len, bls_len, u8s_len, tbl_len, rows_len]; first | done | omega))) only [vkw, ↓va0, ↓va1, ↓va2, ↓va3, vb0, vb1, vb2, vb3, vb4, vb5, vb6, vb7, vb8, vb9, vb10, vz0, vz1, vy0, vx0, ↓reduceIte, Nat.reduceBEq, Nat.reduceEqDiff, Nat.reduceLT, Nat.reduceLeDiff, Nat.reduceAdd, Nat.reduceMul, Nat.reduceSub, reduceCtorEq, Int.reduceToNat]) | (refine Br.mk (fun h => ?_) (fun h => ?_)) | (refine BrN.mk (fun h => ?_) ?_) | (refine AltVC.mk ?_ ?_)
          · refine fin_mk ?_
            have hgo : kGo (keyA M n) K (101 - i) (i + 1) = i + 1 := by
              rw [show 101 - i = (100 - i) + 1 by omega]
              exact kGo_out (by omega)
            rw [hgo] at hg
            unfold allR kW
            rw [← hg, if_neg (by omega)]
          · refine loopK.mk (i + 1) (by simp (disch := (first | omega | (simp only [List.length_cons, List.length_nil, List.length_append, List.length_map, List.length_replicate, List.length_take, List.length_drop, List.length_set, tab_length, tabD_len, i64s_len, bls_len, u8s_len, tbl_len, rows_len]; first | done | omega))) only [↓va0, ↓va1, ↓va2, ↓va3, vb0, vb1, vb2, vb3, vb4, vb5, vb6, vb7, vb8, vb9, vb10, vz0, vz1, vy0, vx0, ↓reduceIte, Nat.reduceBEq, Nat.reduceEqDiff, Nat.reduceLT, Nat.reduceLeDiff, Nat.reduceAdd, Nat.reduceMul, Nat.reduceSub, reduceCtorEq, Int.reduceToNat]) ⟨by omega, by omega, by rw [← hg]; congr 1; omega⟩ (by omega) ?_
            (simp (disch := (first | omega | (simp only [List.length_cons, List.length_nil, List.length_append, List.length_map, List.length_replicate, List.length_take, List.length_drop, List.length_set, tab_length, tabD_len, i64s_len, bls_len, u8s_len, tbl_len, rows_len]; first | done | omega))) only [Fits_u, Fits_m, Fits_nil, List.length_append, vkw, ↓va0, ↓va1, ↓va2, ↓va3, vb0, vb1, vb2, vb3, vb4, vb5, vb6, vb7, vb8, vb9, vb10, vz0, vz1, vy0, vx0, ↓reduceIte, Nat.reduceBEq, Nat.reduceEqDiff, Nat.reduceLT, Nat.reduceLeDiff, Nat.reduceAdd, Nat.reduceMul, Nat.reduceSub, reduceCtorEq, Int.reduceToNat] <;> (repeat' first | rfl | apply And.intro))
            all_goals trace_state
    · repeat' first | (refine Br.dec (fun h => ?_) (fun h => ?_) <;> try (exfalso; omega)) | (refine Br.eqi (fun h => ?_) (fun h => ?_) <;> try (exfalso; omega)) | (simp (disch := (first | omega | (simp only [List.length_cons, List.length_nil, List.length_append, List.length_map, List.length_replicate, List.length_take, List.length_drop, List.length_set, tab_length, tabD_len, i64s_len, bls_len, u8s_len, tbl_len, rows_len]; first | done | omega))) only [vkw, ↓va0, ↓va1, ↓va2, ↓va3, vb0, vb1, vb2, vb3, vb4, vb5, vb6, vb7, vb8, vb9, vb10, vz0, vz1, vy0, vx0, ↓reduceIte, Nat.reduceBEq, Nat.reduceEqDiff, Nat.reduceLT, Nat.reduceLeDiff, Nat.reduceAdd, Nat.reduceMul, Nat.reduceSub, reduceCtorEq, Int.reduceToNat]) | (refine Br.mk (fun h => ?_) (fun h => ?_)) | (refine BrN.mk (fun h => ?_) ?_) | (refine AltVC.mk ?_ ?_)
      refine fin_mk ?_
      have hgo : kGo (keyA M n) K (102 - i) i = i := by
        rw [show 102 - i = (101 - i) + 1 by omega]
        exact kGo_out (by omega)
      rw [hgo] at hg
      unfold allR kW
      rw [← hg, if_pos hl]
      all_goals trace_state
def clR (m : Dm.Machine) (K t0 : Nat) : D := .nl
end Go.Proofs.Ytbbpmodfbdibcaa
