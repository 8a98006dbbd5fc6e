/-
  Kinds of words: what a word does with the states.
-/
import Derived.Test.YtbbpmodfbdibcaaLeast
namespace Go.Proofs.Ytbbpmodfbdibcaa
open Go.Dm
set_option linter.unusedSimpArgs false
set_option linter.unnecessarySimpa false
set_option linter.unusedVariables false
set_option linter.defProp false

/-- The cells of an action. -/
def aD (f : Nat → Nat) : List D := (List.range 7).map fun i => .v (.int .i64 (f i))
theorem aD_len {f : Nat → Nat} : (aD f).length = 7 := by simp [aD]
theorem aD_get {f : Nat → Nat} {i : Nat} {d : D} (h : i < 7) : (aD f).getD i d = .v (.int .i64 (f i)) := by
  simp [aD, List.getD, h]
theorem aD_set {f : Nat → Nat} {i x : Nat} : (aD f).set i (.v (.int .i64 (x : Int))) = aD fun j => if j = i then x else f j := by
  apply List.ext_getElem
  · simp [aD]
  · intro j h1 h2
    simp only [aD, List.getElem_set, List.getElem_map, List.getElem_range]
    by_cases e : i = j
    · rw [if_pos e, if_pos e.symm]
    · rw [if_neg e, if_neg (fun h => e h.symm)]
theorem aD_ext {f g : Nat → Nat} (h : ∀ j, j < 7 → f j = g j) : aD f = aD g := by
  unfold aD
  exact List.map_congr_left fun j hj => by rw [h j (List.mem_range.mp hj)]
theorem aD_zero : [D.v (.int .i64 0), D.v (.int .i64 0), D.v (.int .i64 0), D.v (.int .i64 0), D.v (.int .i64 0), D.v (.int .i64 0), D.v (.int .i64 0)] = aD fun _ => 0 := (rfl)
theorem appD_nil {l : List D} : l ++ [] = l := List.append_nil l
theorem aD_take {f : Nat → Nat} : (aD f).take 7 = aD f := List.take_of_length_le (by rw [aD_len]; omega)
theorem aD_drop {f : Nat → Nat} : (aD f).drop 7 = [] := List.drop_eq_nil_of_le (by rw [aD_len]; omega)
theorem aD_cl {f : Nat → Nat} : (aD f).all D.cl = true := by simp [aD, cl_v]
theorem aD_clo {f : Nat → Nat} : (aD f).all D.clo' = true := by simp [aD, clo'_v]
theorem aD_one {f : Nat → Nat} : (aD f).all D.one = true := (rfl)
section
variable {f : Nat → Nat} {s : S} {τ n : Nat} {ob : Ob} {g : Nat → Nat} {ι : List Nat}
theorem aD_map {g : D → D} (h : ∀ v, g (.v v) = .v v) : (aD f).map g = aD f := by
  unfold aD
  rw [List.map_map]
  exact List.map_congr_left fun j _ => h _
theorem aD_view : (aD f).map s.view = aD f := aD_map fun _ => view_v
theorem aD_kill : (aD f).map (fun d => d.kill τ) = aD f := aD_map fun _ => kill_v
theorem aD_trim : (aD f).map (fun d => d.trim n) = aD f := aD_map fun _ => trim_v
theorem aD_frz : (aD f).map (fun d => d.frz τ ob) = aD f := aD_map fun _ => frz_v
theorem aD_keep : (aD f).map (fun d => d.keep s) = aD f := aD_map fun _ => keep_v
theorem aD_ren : (aD f).map (fun d => d.ren g) = aD f := aD_map fun _ => ren_v
theorem aD_lent : (aD f).map (fun d => d.lent s ι) = aD f := aD_map fun _ => lent_v
theorem aD_owned : (aD f).any D.owned = false := by simp [aD, owned_v]
theorem aD_plain : (aD f).all D.plain = true := by simp [aD, plain_v]
end
theorem obA {f g : Nat → Nat} (h : ∀ j, j < 7 → f j = g j) : some (⟨7, [aD f], true, false, .fix⟩ : Ob) = some ⟨7, [aD g], true, false, .fix⟩ := by rw [aD_ext h]
def vad := And.intro @aD_view <| And.intro @aD_kill <| And.intro @aD_trim <| And.intro @aD_frz <| And.intro @aD_keep <| And.intro @aD_ren <| And.intro @aD_lent <| And.intro @aD_owned <| And.intro @aD_plain <| And.intro @aD_take <| And.intro @aD_drop <| And.intro @aD_cl <| And.intro @aD_clo <| And.intro @aD_one <| And.intro @Nat.mul_one <| And.intro @appD_nil <| And.intro @aD_len <| And.intro @aD_get <| And.intro @aD_set @Int.add_sub_cancel
set_option maxRecDepth 10000 in
set_option maxHeartbeats 4000000 in
theorem krest_spec (z : Unit) : Dm.Spec Try.prog 67 [] (· = .ag (aD fun i => i)) := by
  refine spec_of_vc mixed Try.func67 c67 (by rw [show Try.f67.ntmps = _ from Try.ntmps67]; simp) ?_
  unfold m67 r67
  repeat' first | (refine Br.dec (fun h => ?_) (fun h => ?_) <;> try (exfalso; omega)) | (refine Br.eqi (fun h => ?_) (fun h => ?_) <;> try (exfalso; omega)) | (simp (disch := (first | omega | (simp only [List.length_cons, List.length_nil, List.length_append, List.length_map, List.length_replicate, List.length_take, List.length_drop, List.length_set, tab_length, tabD_len, i64s_len, bls_len, u8s_len, tbl_len, rows_len]; first | done | omega))) only [vad, ↓va0, ↓va1, ↓va2, ↓va3, vb0, vb1, vb2, vb3, vb4, vb5, vb6, vb7, vb8, vb9, vb10, vz0, vz1, vy0, vx0, ↓reduceIte, Nat.reduceBEq, Nat.reduceEqDiff, Nat.reduceLT, Nat.reduceLeDiff, Nat.reduceAdd, Nat.reduceMul, Nat.reduceSub, reduceCtorEq, Int.reduceToNat]) | (refine Br.mk (fun h => ?_) (fun h => ?_)) | (refine BrN.mk (fun h => ?_) ?_) | (refine AltVC.mk ?_ ?_)
  refine LoopVC.mk (X := Nat) (fun i => [(3, iv .i64 i)]) (fun i => [(0, ⟨7, [aD fun _ => 0], true, false, .fix⟩), (1, ⟨7, [aD fun j => if j < i then j else 0], true, false, .fix⟩)]) (fun i => 7 - i) (fun i => i ≤ 7) 0 (by omega) ?_ ?_
  · (simp (disch := (first | omega | (simp only [List.length_cons, List.length_nil, List.length_append, List.length_map, List.length_replicate, List.length_take, List.length_drop, List.length_set, tab_length, tabD_len, i64s_len, bls_len, u8s_len, tbl_len, rows_len]; first | done | omega))) only [Fits_u, Fits_m, Fits_nil, List.length_append, vad, aD_zero, ↓va0, ↓va1, ↓va2, ↓va3, vb0, vb1, vb2, vb3, vb4, vb5, vb6, vb7, vb8, vb9, vb10, vz0, vz1, vy0, vx0, ↓reduceIte, Nat.reduceBEq, Nat.reduceEqDiff, Nat.reduceLT, Nat.reduceLeDiff, Nat.reduceAdd, Nat.reduceMul, Nat.reduceSub, reduceCtorEq, Int.reduceToNat] <;> (repeat' first | rfl | apply And.intro))
    all_goals trace_state
  · intro i hi
    repeat' first | (refine Br.dec (fun h => ?_) (fun h => ?_) <;> try (exfalso; omega)) | (refine Br.eqi (fun h => ?_) (fun h => ?_) <;> try (exfalso; omega)) | (simp (disch := (first | omega | (simp only [List.length_cons, List.length_nil, List.length_append, List.length_map, List.length_replicate, List.length_take, List.length_drop, List.length_set, tab_length, tabD_len, i64s_len, bls_len, u8s_len, tbl_len, rows_len]; first | done | omega))) only [vad, ↓va0, ↓va1, ↓va2, ↓va3, vb0, vb1, vb2, vb3, vb4, vb5, vb6, vb7, vb8, vb9, vb10, vz0, vz1, vy0, vx0, ↓reduceIte, Nat.reduceBEq, Nat.reduceEqDiff, Nat.reduceLT, Nat.reduceLeDiff, Nat.reduceAdd, Nat.reduceMul, Nat.reduceSub, reduceCtorEq, Int.reduceToNat]) | (refine Br.mk (fun h => ?_) (fun h => ?_)) | (refine BrN.mk (fun h => ?_) ?_) | (refine AltVC.mk ?_ ?_)
    · refine loopK.mk (i + 1) (by simp (disch := (first | omega | (simp only [List.length_cons, List.length_nil, List.length_append, List.length_map, List.length_replicate, List.length_take, List.length_drop, List.length_set, tab_length, tabD_len, i64s_len, bls_len, u8s_len, tbl_len, rows_len]; first | done | omega))) only [↓va0, ↓va1, ↓va2, ↓va3, vb0, vb1, vb2, vb3, vb4, vb5, vb6, vb7, vb8, vb9, vb10, vz0, vz1, vy0, vx0, ↓reduceIte, Nat.reduceBEq, Nat.reduceEqDiff, Nat.reduceLT, Nat.reduceLeDiff, Nat.reduceAdd, Nat.reduceMul, Nat.reduceSub, reduceCtorEq, Int.reduceToNat]) (by omega) (by omega) ?_
      (simp (disch := (first | omega | (simp only [List.length_cons, List.length_nil, List.length_append, List.length_map, List.length_replicate, List.length_take, List.length_drop, List.length_set, tab_length, tabD_len, i64s_len, bls_len, u8s_len, tbl_len, rows_len]; first | done | omega))) only [Fits_u, Fits_m, Fits_nil, List.length_append, vad, ↓va0, ↓va1, ↓va2, ↓va3, vb0, vb1, vb2, vb3, vb4, vb5, vb6, vb7, vb8, vb9, vb10, vz0, vz1, vy0, vx0, ↓reduceIte, Nat.reduceBEq, Nat.reduceEqDiff, Nat.reduceLT, Nat.reduceLeDiff, Nat.reduceAdd, Nat.reduceMul, Nat.reduceSub, reduceCtorEq, Int.reduceToNat] <;> (repeat' first | rfl | apply And.intro))
      exact obA fun j hj => by
        by_cases e : j = i
        · subst e; rw [if_pos rfl, if_pos (by omega)]
        · rw [if_neg e]; (repeat' split) <;> first | rfl | omega
    · exact fin_mk (congrArg D.ag (aD_ext fun j hj => by rw [if_pos (by omega)]))
set_option maxRecDepth 10000 in
set_option maxHeartbeats 4000000 in
theorem kafter_spec (f g : Nat → Nat) (hf : ∀ j, j < 7 → f j < 7) (hg : ∀ j, j < 7 → g j < 7) : Dm.Spec Try.prog 57 [.ag (aD f), .ag (aD g)] (· = .ag (aD fun i => g (f i))) := by
  refine spec_of_vc mixed Try.func57 c57 (by rw [show Try.f57.ntmps = _ from Try.ntmps57]; simp) ?_
  unfold m57 r57
  repeat' first | (refine Br.dec (fun h => ?_) (fun h => ?_) <;> try (exfalso; omega)) | (refine Br.eqi (fun h => ?_) (fun h => ?_) <;> try (exfalso; omega)) | (simp (disch := (first | omega | (simp only [List.length_cons, List.length_nil, List.length_append, List.length_map, List.length_replicate, List.length_take, List.length_drop, List.length_set, tab_length, tabD_len, i64s_len, bls_len, u8s_len, tbl_len, rows_len]; first | done | omega))) only [vad, ↓va0, ↓va1, ↓va2, ↓va3, vb0, vb1, vb2, vb3, vb4, vb5, vb6, vb7, vb8, vb9, vb10, vz0, vz1, vy0, vx0, ↓reduceIte, Nat.reduceBEq, Nat.reduceEqDiff, Nat.reduceLT, Nat.reduceLeDiff, Nat.reduceAdd, Nat.reduceMul, Nat.reduceSub, reduceCtorEq, Int.reduceToNat]) | (refine Br.mk (fun h => ?_) (fun h => ?_)) | (refine BrN.mk (fun h => ?_) ?_) | (refine AltVC.mk ?_ ?_)
  refine LoopVC.mk (X := Nat) (fun i => [(7, iv .i64 i)]) (fun i => [(0, ⟨7, [aD f], true, false, .fix⟩), (1, ⟨7, [aD g], true, false, .fix⟩), (2, ⟨7, [aD fun _ => 0], true, false, .fix⟩), (3, ⟨7, [aD fun j => if j < i then g (f j) else 0], true, false, .fix⟩)]) (fun i => 7 - i) (fun i => i ≤ 7) 0 (by omega) ?_ ?_
  · (simp (disch := (first | omega | (simp only [List.length_cons, List.length_nil, List.length_append, List.length_map, List.length_replicate, List.length_take, List.length_drop, List.length_set, tab_length, tabD_len, i64s_len, bls_len, u8s_len, tbl_len, rows_len]; first | done | omega))) only [Fits_u, Fits_m, Fits_nil, List.length_append, vad, aD_zero, ↓va0, ↓va1, ↓va2, ↓va3, vb0, vb1, vb2, vb3, vb4, vb5, vb6, vb7, vb8, vb9, vb10, vz0, vz1, vy0, vx0, ↓reduceIte, Nat.reduceBEq, Nat.reduceEqDiff, Nat.reduceLT, Nat.reduceLeDiff, Nat.reduceAdd, Nat.reduceMul, Nat.reduceSub, reduceCtorEq, Int.reduceToNat] <;> (repeat' first | rfl | apply And.intro))
  · intro i hi
    by_cases h7 : i < 7
    · have h1 := hf i h7
      have h2 := hg _ h1
      repeat' first | (refine Br.dec (fun h => ?_) (fun h => ?_) <;> try (exfalso; omega)) | (refine Br.eqi (fun h => ?_) (fun h => ?_) <;> try (exfalso; omega)) | (simp (disch := (first | omega | (simp only [List.length_cons, List.length_nil, List.length_append, List.length_map, List.length_replicate, List.length_take, List.length_drop, List.length_set, tab_length, tabD_len, i64s_len, bls_len, u8s_len, tbl_len, rows_len]; first | done | omega))) only [vad, ↓va0, ↓va1, ↓va2, ↓va3, vb0, vb1, vb2, vb3, vb4, vb5, vb6, vb7, vb8, vb9, vb10, vz0, vz1, vy0, vx0, ↓reduceIte, Nat.reduceBEq, Nat.reduceEqDiff, Nat.reduceLT, Nat.reduceLeDiff, Nat.reduceAdd, Nat.reduceMul, Nat.reduceSub, reduceCtorEq, Int.reduceToNat]) | (refine Br.mk (fun h => ?_) (fun h => ?_)) | (refine BrN.mk (fun h => ?_) ?_) | (refine AltVC.mk ?_ ?_)
      refine loopK.mk (i + 1) (by simp (disch := (first | omega | (simp only [List.length_cons, List.length_nil, List.length_append, List.length_map, List.length_replicate, List.length_take, List.length_drop, List.length_set, tab_length, tabD_len, i64s_len, bls_len, u8s_len, tbl_len, rows_len]; first | done | omega))) only [↓va0, ↓va1, ↓va2, ↓va3, vb0, vb1, vb2, vb3, vb4, vb5, vb6, vb7, vb8, vb9, vb10, vz0, vz1, vy0, vx0, ↓reduceIte, Nat.reduceBEq, Nat.reduceEqDiff, Nat.reduceLT, Nat.reduceLeDiff, Nat.reduceAdd, Nat.reduceMul, Nat.reduceSub, reduceCtorEq, Int.reduceToNat]) (by omega) (by omega) ?_
      (simp (disch := (first | omega | (simp only [List.length_cons, List.length_nil, List.length_append, List.length_map, List.length_replicate, List.length_take, List.length_drop, List.length_set, tab_length, tabD_len, i64s_len, bls_len, u8s_len, tbl_len, rows_len]; first | done | omega))) only [Fits_u, Fits_m, Fits_nil, List.length_append, vad, ↓va0, ↓va1, ↓va2, ↓va3, vb0, vb1, vb2, vb3, vb4, vb5, vb6, vb7, vb8, vb9, vb10, vz0, vz1, vy0, vx0, ↓reduceIte, Nat.reduceBEq, Nat.reduceEqDiff, Nat.reduceLT, Nat.reduceLeDiff, Nat.reduceAdd, Nat.reduceMul, Nat.reduceSub, reduceCtorEq, Int.reduceToNat] <;> (repeat' first | rfl | apply And.intro))
      exact obA fun j hj => by
        by_cases e : j = i
        · subst e; rw [if_pos rfl, if_pos (by omega)]
        · rw [if_neg e]; (repeat' split) <;> first | rfl | omega
    · repeat' first | (refine Br.dec (fun h => ?_) (fun h => ?_) <;> try (exfalso; omega)) | (refine Br.eqi (fun h => ?_) (fun h => ?_) <;> try (exfalso; omega)) | (simp (disch := (first | omega | (simp only [List.length_cons, List.length_nil, List.length_append, List.length_map, List.length_replicate, List.length_take, List.length_drop, List.length_set, tab_length, tabD_len, i64s_len, bls_len, u8s_len, tbl_len, rows_len]; first | done | omega))) only [vad, ↓va0, ↓va1, ↓va2, ↓va3, vb0, vb1, vb2, vb3, vb4, vb5, vb6, vb7, vb8, vb9, vb10, vz0, vz1, vy0, vx0, ↓reduceIte, Nat.reduceBEq, Nat.reduceEqDiff, Nat.reduceLT, Nat.reduceLeDiff, Nat.reduceAdd, Nat.reduceMul, Nat.reduceSub, reduceCtorEq, Int.reduceToNat]) | (refine Br.mk (fun h => ?_) (fun h => ?_)) | (refine BrN.mk (fun h => ?_) ?_) | (refine AltVC.mk ?_ ?_)
      exact fin_mk (congrArg D.ag (aD_ext fun j hj => by rw [if_pos (by omega)]))
/-- Where a symbol leads: on 0 .. N - 1 as the machine says, beyond that nowhere else. -/
def syF (m : Dm.Machine) (N s i : Nat) : Nat := if i < N then nx m i s else i
set_option maxRecDepth 10000 in
set_option maxHeartbeats 4000000 in
theorem ksymbol_spec (m : Dm.Machine) (hv : WM m) (N K s : Nat) (hN : m.n = N) (hK : m.k = K) (hN7 : N ≤ 7) (hs : s < K) : Dm.Spec Try.prog 68 [.ag (mk5 N K m.next m.start m.final), iv .i64 s] (· = .ag (aD (syF m N s))) := by
  refine spec_of_vc mixed Try.func68 c68 (by rw [show Try.f68.ntmps = _ from Try.ntmps68]; simp) ?_
  unfold m68 r68
  have hlen := hv.len
  have hn := hv.n
  repeat' first | (refine Br.dec (fun h => ?_) (fun h => ?_) <;> try (exfalso; omega)) | (refine Br.eqi (fun h => ?_) (fun h => ?_) <;> try (exfalso; omega)) | (simp (disch := (first | omega | (simp only [List.length_cons, List.length_nil, List.length_append, List.length_map, List.length_replicate, List.length_take, List.length_drop, List.length_set, tab_length, tabD_len, i64s_len, bls_len, u8s_len, tbl_len, rows_len]; first | done | omega))) only [vad, ↓va0, ↓va1, ↓va2, ↓va3, vb0, vb1, vb2, vb3, vb4, vb5, vb6, vb7, vb8, vb9, vb10, vz0, vz1, vy0, vx0, ↓reduceIte, Nat.reduceBEq, Nat.reduceEqDiff, Nat.reduceLT, Nat.reduceLeDiff, Nat.reduceAdd, Nat.reduceMul, Nat.reduceSub, reduceCtorEq, Int.reduceToNat]) | (refine Br.mk (fun h => ?_) (fun h => ?_)) | (refine BrN.mk (fun h => ?_) ?_) | (refine AltVC.mk ?_ ?_)
  refine CallVC.eq (krest_spec ()) ?_
  repeat' first | (refine Br.dec (fun h => ?_) (fun h => ?_) <;> try (exfalso; omega)) | (refine Br.eqi (fun h => ?_) (fun h => ?_) <;> try (exfalso; omega)) | (simp (disch := (first | omega | (simp only [List.length_cons, List.length_nil, List.length_append, List.length_map, List.length_replicate, List.length_take, List.length_drop, List.length_set, tab_length, tabD_len, i64s_len, bls_len, u8s_len, tbl_len, rows_len]; first | done | omega))) only [vad, ↓va0, ↓va1, ↓va2, ↓va3, vb0, vb1, vb2, vb3, vb4, vb5, vb6, vb7, vb8, vb9, vb10, vz0, vz1, vy0, vx0, ↓reduceIte, Nat.reduceBEq, Nat.reduceEqDiff, Nat.reduceLT, Nat.reduceLeDiff, Nat.reduceAdd, Nat.reduceMul, Nat.reduceSub, reduceCtorEq, Int.reduceToNat]) | (refine Br.mk (fun h => ?_) (fun h => ?_)) | (refine BrN.mk (fun h => ?_) ?_) | (refine AltVC.mk ?_ ?_)
  refine LoopVC.mk (X := Nat) (fun i => [(10, iv .i64 i)]) (fun i => [(0, ⟨5, [mk5 N K m.next m.start m.final], true, false, .fix⟩), (1, ⟨7, [aD fun _ => 0], true, false, .fix⟩), (2, ⟨7, [aD fun j => if j < i then nx m j s else j], true, false, .fix⟩)]) (fun i => N - i) (fun i => i ≤ N) 0 (by omega) ?_ ?_
  · (simp (disch := (first | omega | (simp only [List.length_cons, List.length_nil, List.length_append, List.length_map, List.length_replicate, List.length_take, List.length_drop, List.length_set, tab_length, tabD_len, i64s_len, bls_len, u8s_len, tbl_len, rows_len]; first | done | omega))) only [Fits_u, Fits_m, Fits_nil, List.length_append, vad, aD_zero, ↓va0, ↓va1, ↓va2, ↓va3, vb0, vb1, vb2, vb3, vb4, vb5, vb6, vb7, vb8, vb9, vb10, vz0, vz1, vy0, vx0, ↓reduceIte, Nat.reduceBEq, Nat.reduceEqDiff, Nat.reduceLT, Nat.reduceLeDiff, Nat.reduceAdd, Nat.reduceMul, Nat.reduceSub, reduceCtorEq, Int.reduceToNat] <;> (repeat' first | rfl | apply And.intro))
  · intro i hi
    by_cases hiN : i < N
    · have hr := hv.row _ (getD_mem' (l := m.next) (i := i) (by omega))
      have e1 : (m.next.getD i default).getD s 0 = (nx m i s : Int) := nx_int hv (by omega)
      repeat' first | (refine Br.dec (fun h => ?_) (fun h => ?_) <;> try (exfalso; omega)) | (refine Br.eqi (fun h => ?_) (fun h => ?_) <;> try (exfalso; omega)) | (simp (disch := (first | omega | (simp only [List.length_cons, List.length_nil, List.length_append, List.length_map, List.length_replicate, List.length_take, List.length_drop, List.length_set, tab_length, tabD_len, i64s_len, bls_len, u8s_len, tbl_len, rows_len]; first | done | omega))) only [vad, e1, ↓va0, ↓va1, ↓va2, ↓va3, vb0, vb1, vb2, vb3, vb4, vb5, vb6, vb7, vb8, vb9, vb10, vz0, vz1, vy0, vx0, ↓reduceIte, Nat.reduceBEq, Nat.reduceEqDiff, Nat.reduceLT, Nat.reduceLeDiff, Nat.reduceAdd, Nat.reduceMul, Nat.reduceSub, reduceCtorEq, Int.reduceToNat]) | (refine Br.mk (fun h => ?_) (fun h => ?_)) | (refine BrN.mk (fun h => ?_) ?_) | (refine AltVC.mk ?_ ?_)
      refine loopK.mk (i + 1) (by simp (disch := (first | omega | (simp only [List.length_cons, List.length_nil, List.length_append, List.length_map, List.length_replicate, List.length_take, List.length_drop, List.length_set, tab_length, tabD_len, i64s_len, bls_len, u8s_len, tbl_len, rows_len]; first | done | omega))) only [↓va0, ↓va1, ↓va2, ↓va3, vb0, vb1, vb2, vb3, vb4, vb5, vb6, vb7, vb8, vb9, vb10, vz0, vz1, vy0, vx0, ↓reduceIte, Nat.reduceBEq, Nat.reduceEqDiff, Nat.reduceLT, Nat.reduceLeDiff, Nat.reduceAdd, Nat.reduceMul, Nat.reduceSub, reduceCtorEq, Int.reduceToNat]) (by omega) (by omega) ?_
      (simp (disch := (first | omega | (simp only [List.length_cons, List.length_nil, List.length_append, List.length_map, List.length_replicate, List.length_take, List.length_drop, List.length_set, tab_length, tabD_len, i64s_len, bls_len, u8s_len, tbl_len, rows_len]; first | done | omega))) only [Fits_u, Fits_m, Fits_nil, List.length_append, vad, ↓va0, ↓va1, ↓va2, ↓va3, vb0, vb1, vb2, vb3, vb4, vb5, vb6, vb7, vb8, vb9, vb10, vz0, vz1, vy0, vx0, ↓reduceIte, Nat.reduceBEq, Nat.reduceEqDiff, Nat.reduceLT, Nat.reduceLeDiff, Nat.reduceAdd, Nat.reduceMul, Nat.reduceSub, reduceCtorEq, Int.reduceToNat] <;> (repeat' first | rfl | apply And.intro))
      exact obA fun j hj => by
        by_cases e : j = i
        · subst e; rw [if_pos rfl, if_pos (by omega)]
        · rw [if_neg e]; (repeat' split) <;> first | rfl | omega
    · repeat' first | (refine Br.dec (fun h => ?_) (fun h => ?_) <;> try (exfalso; omega)) | (refine Br.eqi (fun h => ?_) (fun h => ?_) <;> try (exfalso; omega)) | (simp (disch := (first | omega | (simp only [List.length_cons, List.length_nil, List.length_append, List.length_map, List.length_replicate, List.length_take, List.length_drop, List.length_set, tab_length, tabD_len, i64s_len, bls_len, u8s_len, tbl_len, rows_len]; first | done | omega))) only [vad, ↓va0, ↓va1, ↓va2, ↓va3, vb0, vb1, vb2, vb3, vb4, vb5, vb6, vb7, vb8, vb9, vb10, vz0, vz1, vy0, vx0, ↓reduceIte, Nat.reduceBEq, Nat.reduceEqDiff, Nat.reduceLT, Nat.reduceLeDiff, Nat.reduceAdd, Nat.reduceMul, Nat.reduceSub, reduceCtorEq, Int.reduceToNat]) | (refine Br.mk (fun h => ?_) (fun h => ?_)) | (refine BrN.mk (fun h => ?_) ?_) | (refine AltVC.mk ?_ ?_)
      exact fin_mk (congrArg D.ag (aD_ext fun j hj => by unfold syF; (repeat' split) <;> first | rfl | omega))
/-- Where a word leads. -/
def ofF (m : Dm.Machine) (N : Nat) (w : List Int) (i : Nat) : Nat := w.foldl (fun x s => syF m N s.toNat x) i
theorem ofF_succ {m : Dm.Machine} {N i k : Nat} {w : List Int} (hk : k < w.length) : ofF m N (w.take (k + 1)) i = syF m N (w.getD k 0).toNat (ofF m N (w.take k) i) := by
  unfold ofF
  rw [take_succ_getD hk 0, List.foldl_append]; rfl
theorem syF_lt {m : Dm.Machine} (hv : WM m) {N s i : Nat} (hN : m.n = N) (hN7 : N ≤ 7) (hi : i < 7) : syF m N s i < 7 := by
  unfold syF
  split
  · have := nx_lt hv (i := i) s (by omega); omega
  · exact hi
theorem ofF_lt {m : Dm.Machine} (hv : WM m) {N : Nat} (hN : m.n = N) (hN7 : N ≤ 7) : ∀ {w : List Int} {i : Nat}, i < 7 → ofF m N w i < 7
  | [], _, h => h
  | s :: w, i, h => ofF_lt hv hN hN7 (w := w) (syF_lt hv hN hN7 (s := s.toNat) h)
set_option maxRecDepth 10000 in
set_option maxHeartbeats 4000000 in
theorem kof_spec (m : Dm.Machine) (hv : WM m) (N K : Nat) (hN : m.n = N) (hK : m.k = K) (hN7 : N ≤ 7) (w : List Int) (hw : w.length ≤ 1000000) (hs : ∀ x, x ∈ w → 0 ≤ x ∧ x < K) : Dm.Spec Try.prog 54 [.ag (mk5 N K m.next m.start m.final), .sl 1 (i64s w)] (· = .ag (aD (ofF m N w))) := by
  refine spec_of_vc mixed Try.func54 c54 (by rw [show Try.f54.ntmps = _ from Try.ntmps54]; simp) ?_
  unfold m54 r54
  repeat' first | (refine Br.dec (fun h => ?_) (fun h => ?_) <;> try (exfalso; omega)) | (refine Br.eqi (fun h => ?_) (fun h => ?_) <;> try (exfalso; omega)) | (simp (disch := (first | omega | (simp only [List.length_cons, List.length_nil, List.length_append, List.length_map, List.length_replicate, List.length_take, List.length_drop, List.length_set, tab_length, tabD_len, i64s_len, bls_len, u8s_len, tbl_len, rows_len]; first | done | omega))) only [vad, ↓va0, ↓va1, ↓va2, ↓va3, vb0, vb1, vb2, vb3, vb4, vb5, vb6, vb7, vb8, vb9, vb10, vz0, vz1, vy0, vx0, ↓reduceIte, Nat.reduceBEq, Nat.reduceEqDiff, Nat.reduceLT, Nat.reduceLeDiff, Nat.reduceAdd, Nat.reduceMul, Nat.reduceSub, reduceCtorEq, Int.reduceToNat]) | (refine Br.mk (fun h => ?_) (fun h => ?_)) | (refine BrN.mk (fun h => ?_) ?_) | (refine AltVC.mk ?_ ?_)
  refine CallVC.eq (krest_spec ()) ?_
  repeat' first | (refine Br.dec (fun h => ?_) (fun h => ?_) <;> try (exfalso; omega)) | (refine Br.eqi (fun h => ?_) (fun h => ?_) <;> try (exfalso; omega)) | (simp (disch := (first | omega | (simp only [List.length_cons, List.length_nil, List.length_append, List.length_map, List.length_replicate, List.length_take, List.length_drop, List.length_set, tab_length, tabD_len, i64s_len, bls_len, u8s_len, tbl_len, rows_len]; first | done | omega))) only [vad, ↓va0, ↓va1, ↓va2, ↓va3, vb0, vb1, vb2, vb3, vb4, vb5, vb6, vb7, vb8, vb9, vb10, vz0, vz1, vy0, vx0, ↓reduceIte, Nat.reduceBEq, Nat.reduceEqDiff, Nat.reduceLT, Nat.reduceLeDiff, Nat.reduceAdd, Nat.reduceMul, Nat.reduceSub, reduceCtorEq, Int.reduceToNat]) | (refine Br.mk (fun h => ?_) (fun h => ?_)) | (refine BrN.mk (fun h => ?_) ?_) | (refine AltVC.mk ?_ ?_)
  refine LoopVC.mk (X := Nat) (fun k => [(11, iv .i64 k)]) (fun k => [(0, ⟨5, [mk5 N K m.next m.start m.final], true, false, .fix⟩), (1, ⟨7, [aD fun _ => 0], true, false, .fix⟩), (2, ⟨7, [aD (ofF m N (w.take k))], true, false, .fix⟩)]) (fun k => w.length - k) (fun k => k ≤ w.length) 0 (by omega) ?_ ?_
  · (simp (disch := (first | omega | (simp only [List.length_cons, List.length_nil, List.length_append, List.length_map, List.length_replicate, List.length_take, List.length_drop, List.length_set, tab_length, tabD_len, i64s_len, bls_len, u8s_len, tbl_len, rows_len]; first | done | omega))) only [Fits_u, Fits_m, Fits_nil, List.length_append, vad, aD_zero, ↓va0, ↓va1, ↓va2, ↓va3, vb0, vb1, vb2, vb3, vb4, vb5, vb6, vb7, vb8, vb9, vb10, vz0, vz1, vy0, vx0, ↓reduceIte, Nat.reduceBEq, Nat.reduceEqDiff, Nat.reduceLT, Nat.reduceLeDiff, Nat.reduceAdd, Nat.reduceMul, Nat.reduceSub, reduceCtorEq, Int.reduceToNat] <;> (repeat' first | rfl | apply And.intro))
    all_goals (first | rfl | trace_state)
  · intro k hk
    by_cases hkw : k < w.length
    · have hsk := hs _ (getD_mem' (l := w) (i := k) hkw)
      have e0 : w.getD k default = (((w.getD k 0).toNat : Nat) : Int) := by show w.getD k 0 = _; have : w.getD k default = w.getD k 0 := rfl; omega
      have hsk2 : (w.getD k 0).toNat < K := by have : w.getD k default = w.getD k 0 := rfl; omega
      have hSy := ksymbol_spec m hv N K (w.getD k 0).toNat hN hK hN7 hsk2
      have hAf := kafter_spec (ofF m N (w.take k)) (syF m N (w.getD k 0).toNat) (fun j hj => ofF_lt hv hN hN7 hj) (fun j hj => syF_lt hv hN hN7 hj)
      rw [← e0] at hSy
      repeat' first | (refine Br.dec (fun h => ?_) (fun h => ?_) <;> try (exfalso; omega)) | (refine Br.eqi (fun h => ?_) (fun h => ?_) <;> try (exfalso; omega)) | (simp (disch := (first | omega | (simp only [List.length_cons, List.length_nil, List.length_append, List.length_map, List.length_replicate, List.length_take, List.length_drop, List.length_set, tab_length, tabD_len, i64s_len, bls_len, u8s_len, tbl_len, rows_len]; first | done | omega))) only [vad, ↓va0, ↓va1, ↓va2, ↓va3, vb0, vb1, vb2, vb3, vb4, vb5, vb6, vb7, vb8, vb9, vb10, vz0, vz1, vy0, vx0, ↓reduceIte, Nat.reduceBEq, Nat.reduceEqDiff, Nat.reduceLT, Nat.reduceLeDiff, Nat.reduceAdd, Nat.reduceMul, Nat.reduceSub, reduceCtorEq, Int.reduceToNat]) | (refine Br.mk (fun h => ?_) (fun h => ?_)) | (refine BrN.mk (fun h => ?_) ?_) | (refine AltVC.mk ?_ ?_)
      refine CallP.eq hSy (by simp) ?_
      repeat' first | (refine Br.dec (fun h => ?_) (fun h => ?_) <;> try (exfalso; omega)) | (refine Br.eqi (fun h => ?_) (fun h => ?_) <;> try (exfalso; omega)) | (simp (disch := (first | omega | (simp only [List.length_cons, List.length_nil, List.length_append, List.length_map, List.length_replicate, List.length_take, List.length_drop, List.length_set, tab_length, tabD_len, i64s_len, bls_len, u8s_len, tbl_len, rows_len]; first | done | omega))) only [vad, ↓va0, ↓va1, ↓va2, ↓va3, vb0, vb1, vb2, vb3, vb4, vb5, vb6, vb7, vb8, vb9, vb10, vz0, vz1, vy0, vx0, ↓reduceIte, Nat.reduceBEq, Nat.reduceEqDiff, Nat.reduceLT, Nat.reduceLeDiff, Nat.reduceAdd, Nat.reduceMul, Nat.reduceSub, reduceCtorEq, Int.reduceToNat]) | (refine Br.mk (fun h => ?_) (fun h => ?_)) | (refine BrN.mk (fun h => ?_) ?_) | (refine AltVC.mk ?_ ?_)
      refine CallP.eq hAf (by simp) ?_
      repeat' first | (refine Br.dec (fun h => ?_) (fun h => ?_) <;> try (exfalso; omega)) | (refine Br.eqi (fun h => ?_) (fun h => ?_) <;> try (exfalso; omega)) | (simp (disch := (first | omega | (simp only [List.length_cons, List.length_nil, List.length_append, List.length_map, List.length_replicate, List.length_take, List.length_drop, List.length_set, tab_length, tabD_len, i64s_len, bls_len, u8s_len, tbl_len, rows_len]; first | done | omega))) only [vad, ↓va0, ↓va1, ↓va2, ↓va3, vb0, vb1, vb2, vb3, vb4, vb5, vb6, vb7, vb8, vb9, vb10, vz0, vz1, vy0, vx0, ↓reduceIte, Nat.reduceBEq, Nat.reduceEqDiff, Nat.reduceLT, Nat.reduceLeDiff, Nat.reduceAdd, Nat.reduceMul, Nat.reduceSub, reduceCtorEq, Int.reduceToNat]) | (refine Br.mk (fun h => ?_) (fun h => ?_)) | (refine BrN.mk (fun h => ?_) ?_) | (refine AltVC.mk ?_ ?_)
      refine loopK.mk (k + 1) (by simp (disch := (first | omega | (simp only [List.length_cons, List.length_nil, List.length_append, List.length_map, List.length_replicate, List.length_take, List.length_drop, List.length_set, tab_length, tabD_len, i64s_len, bls_len, u8s_len, tbl_len, rows_len]; first | done | omega))) only [↓va0, ↓va1, ↓va2, ↓va3, vb0, vb1, vb2, vb3, vb4, vb5, vb6, vb7, vb8, vb9, vb10, vz0, vz1, vy0, vx0, ↓reduceIte, Nat.reduceBEq, Nat.reduceEqDiff, Nat.reduceLT, Nat.reduceLeDiff, Nat.reduceAdd, Nat.reduceMul, Nat.reduceSub, reduceCtorEq, Int.reduceToNat]) (by omega) (by omega) ?_
      (simp (disch := (first | omega | (simp only [List.length_cons, List.length_nil, List.length_append, List.length_map, List.length_replicate, List.length_take, List.length_drop, List.length_set, tab_length, tabD_len, i64s_len, bls_len, u8s_len, tbl_len, rows_len]; first | done | omega))) only [Fits_u, Fits_m, Fits_nil, List.length_append, vad, ↓va0, ↓va1, ↓va2, ↓va3, vb0, vb1, vb2, vb3, vb4, vb5, vb6, vb7, vb8, vb9, vb10, vz0, vz1, vy0, vx0, ↓reduceIte, Nat.reduceBEq, Nat.reduceEqDiff, Nat.reduceLT, Nat.reduceLeDiff, Nat.reduceAdd, Nat.reduceMul, Nat.reduceSub, reduceCtorEq, Int.reduceToNat] <;> (repeat' first | rfl | apply And.intro))
      exact obA fun j hj => (ofF_succ hkw).symm
    · rw [List.take_of_length_le (by omega)]
      repeat' first | (refine Br.dec (fun h => ?_) (fun h => ?_) <;> try (exfalso; omega)) | (refine Br.eqi (fun h => ?_) (fun h => ?_) <;> try (exfalso; omega)) | (simp (disch := (first | omega | (simp only [List.length_cons, List.length_nil, List.length_append, List.length_map, List.length_replicate, List.length_take, List.length_drop, List.length_set, tab_length, tabD_len, i64s_len, bls_len, u8s_len, tbl_len, rows_len]; first | done | omega))) only [vad, ↓va0, ↓va1, ↓va2, ↓va3, vb0, vb1, vb2, vb3, vb4, vb5, vb6, vb7, vb8, vb9, vb10, vz0, vz1, vy0, vx0, ↓reduceIte, Nat.reduceBEq, Nat.reduceEqDiff, Nat.reduceLT, Nat.reduceLeDiff, Nat.reduceAdd, Nat.reduceMul, Nat.reduceSub, reduceCtorEq, Int.reduceToNat]) | (refine Br.mk (fun h => ?_) (fun h => ?_)) | (refine BrN.mk (fun h => ?_) ?_) | (refine AltVC.mk ?_ ?_)
      exact fin_mk rfl
end Go.Proofs.Ytbbpmodfbdibcaa
