/-
 Texts of this claim, one behind another.
-/
import Derived.Test.YtplkkacfjepgpaaMg15
import Derived.Test.YtplkkacfjepgpaaMg13
namespace Go.Proofs.Ytplkkacfjepgpaa
open Go.Dm
set_option linter.unusedSimpArgs false
set_option linter.unnecessarySimpa false
set_option linter.unusedVariables false
set_option linter.defProp false
def nuB (S : Nat) (a : Int) : Bool := S.testBit a.toNat
def fuI (nul : Int → Bool) (k : Int) (r : Rule) (x y : Int) (i : Nat) : List Rule := r :: ((if 1 ≤ i then (if nul (x - k) then [⟨r.left, [y]⟩] else []) else []) ++ if 2 ≤ i then (if nul (y - k) then [⟨r.left, [x]⟩] else []) else [])
theorem fuI_2 {nul : Int → Bool} {k : Int} {r : Rule} {x y : Int} (h : r.right = [x, y]) : fuI nul k r x y 2 = fulS nul k r := by
  unfold fulS fuI
  rw [h]; rfl
theorem fuI_1 {nul : Int → Bool} {k : Int} {r : Rule} {x y : Int} : fuI nul k r x y 1 = r :: (if nul (x - k) then [⟨r.left, [y]⟩] else []) := by simp [fuI]
theorem fuI_12 {nul : Int → Bool} {k : Int} {r : Rule} {x y : Int} : fuI nul k r x y 2 = fuI nul k r x y 1 ++ (if nul (y - k) then [⟨r.left, [x]⟩] else []) := by simp [fuI]
theorem fuI_0 {nul : Int → Bool} {k : Int} {r : Rule} {x y : Int} : fuI nul k r x y 0 = [r] := by simp [fuI]
theorem fuI_len {nul : Int → Bool} {k : Int} {r : Rule} {x y : Int} {i : Nat} : (fuI nul k r x y i).length ≤ 3 := by
  unfold fuI
  (repeat' split) <;> simp
def fuQ (g : Grammar) (S q : Nat) : List Rule := (g.rules.take q).flatMap (fulS (nuB S) g.k)
theorem fuQ_succ {g : Grammar} {S q : Nat} (h : q < g.rules.length) : fuQ g S (q + 1) = fuQ g S q ++ fulS (nuB S) g.k (g.rules.getD q default) := by
  unfold fuQ
  rw [take_succ_getD h default, List.flatMap_append, List.flatMap_cons, List.flatMap_nil, List.append_nil]
theorem fulS_len {nul : Int → Bool} {k : Int} {r : Rule} (h : r.right.length ≤ 2) : (fulS nul k r).length ≤ 3 := by
  unfold fulS
  split
  · simp
  · (repeat' split) <;> simp
  · simp
theorem fuQ_len {g : Grammar} {S : Nat} (h : ∀ r, r ∈ g.rules → r.right.length ≤ 2) : ∀ {q : Nat}, q ≤ g.rules.length → (fuQ g S q).length ≤ 3 * q
  | 0, _ => by simp [fuQ]
  | q + 1, hq => by
    rw [fuQ_succ (by omega), List.length_append]
    have h1 := @fuQ_len g S h q (by omega)
    have h2 := @fulS_len (nuB S) g.k _ (h _ (getD_mem' (l := g.rules) (i := q) (by omega)))
    omega
theorem rl_kill {L : List Rule} {τ : Nat} : List.map (fun e => List.map (D.kill τ) e) (tbl rulD L) = tbl rulD L := by
  have e : ((fun e => List.map (D.kill τ) e) ∘ rulD) = rulD := by funext r; simp [rulD, kill_v, kill_sl]
  simp [tbl, e]
theorem rl_frz {L : List Rule} {τ : Nat} {ob : Ob} : List.map (fun e => List.map (D.frz τ ob) e) (tbl rulD L) = tbl rulD L := by
  have e : ((fun e => List.map (D.frz τ ob) e) ∘ rulD) = rulD := by funext r; simp [rulD, D.frz, D.lf, frzL]
  simp [tbl, e]
theorem rl_all {L : List Rule} : (tbl rulD L).all (fun e => e.all D.clo') = true := by simp [tbl, rulD, clo'_sl, clo'_v]
def vfu := And.intro vsh <| And.intro @rl_kill <| And.intro @rl_all @rl_frz
set_option maxRecDepth 10000 in
set_option maxHeartbeats 4000000 in
theorem full_spec (g : Grammar) (hv : VaG g) (hn31 : g.n ≤ 31) (hok : ∀ r, r ∈ g.rules → ShOk g.k g.n r) : Dm.Spec Try.prog 51 [.ag (graD g)] (fun d => ∃ S : Nat, DvS g true S ∧ d = .sl 2 (tbl rulD (fuG g (nuB S)).rules)) := by
  refine spec_of_vc mixed Try.func51 c51 (by rw [show Try.f51.ntmps = _ from Try.ntmps51]; simp) ?_
  unfold m51 r51
  have hk := hv.k
  have hn := hv.n
  have hrl := hv.len
  repeat' first | ((first | refine Br.dec ?_ ?_ | refine Br.eqi ?_ ?_) <;> intro h <;> try (exfalso; omega)) | (simp (disch := first | omega | (simp only [vlen]; first | done | omega)) only [graD_eq, vfu, ↓vAq, vBq, ↓reduceIte, Nat.reduceBEq, Nat.reduceEqDiff, Nat.reduceLT, Nat.reduceLeDiff, Nat.reduceAdd, Nat.reduceMul, Nat.reduceSub, reduceCtorEq, Int.reduceToNat]) | (refine Br.mk ?_ ?_ <;> intro h) | (refine BrN.mk (fun h => ?_) ?_) | (refine AltVC.mk ?_ ?_)
  refine CallVC.mk (nullableG_spec g hv hn31) ?_
  rintro _ ⟨S, rfl, hS⟩
  have hS31 : S < 4294967296 := Nat.lt_of_lt_of_le hS.lt (Nat.le_trans (Nat.pow_le_pow_right (show 0 < 2 by omega) (show g.n.toNat ≤ 31 by omega)) (by decide))
  repeat' first | ((first | refine Br.dec ?_ ?_ | refine Br.eqi ?_ ?_) <;> intro h <;> try (exfalso; omega)) | (simp (disch := first | omega | (simp only [vlen]; first | done | omega)) only [graD_eq, vfu, ↓vAq, vBq, ↓reduceIte, Nat.reduceBEq, Nat.reduceEqDiff, Nat.reduceLT, Nat.reduceLeDiff, Nat.reduceAdd, Nat.reduceMul, Nat.reduceSub, reduceCtorEq, Int.reduceToNat]) | (refine Br.mk ?_ ?_ <;> intro h) | (refine BrN.mk (fun h => ?_) ?_) | (refine AltVC.mk ?_ ?_)
  refine LoopVC.mk (X := Nat) (fun q => [(14, iv .i64 q), (4, .ref 2 2 0 (fuQ g S q).length)]) (fun q => [(0, ⟨4, [[iv .i64 g.k, iv .i64 g.n, iv .i64 g.start, .sl 2 (tbl rulD g.rules)]], true, false, .fix⟩), (2, ⟨2, tbl rulD (fuQ g S q), true, false, .arr⟩)]) (fun q => g.rules.length - q) (fun q => q ≤ g.rules.length) 0 (Nat.zero_le _) ?_ ?_
  · (simp (disch := first | omega | (simp only [vlen]; first | done | omega)) only [Fits_u, Fits_m, Fits_nil, List.length_append, vfu, ↓vAq, vBq, ↓reduceIte, Nat.reduceBEq, Nat.reduceEqDiff, Nat.reduceLT, Nat.reduceLeDiff, Nat.reduceAdd, Nat.reduceMul, Nat.reduceSub, reduceCtorEq, Int.reduceToNat] <;> (repeat' first | rfl | apply And.intro))
    all_goals first | rfl | trace_state
  · intro q hq
    have hQl := fuQ_len (S := S) (fun r hr => (hok r hr).2.1) hq
    by_cases hql : q < g.rules.length
    · have hmr := getD_mem' (l := g.rules) (i := q) hql
      obtain ⟨⟨o1, o2⟩, o3, o4, o5⟩ := hok _ hmr
      have hsu := fuQ_succ (S := S) hql
      have hsl := fuQ_len (S := S) (fun r hr => (hok r hr).2.1) (show q + 1 ≤ g.rules.length by omega)
      obtain ⟨r, hr⟩ : ∃ r, g.rules.getD q default = r := ⟨_, rfl⟩
      rw [hr] at o1 o2 o3 o4 o5 hsu
      obtain ⟨l, R⟩ := r
      simp only at o1 o2 o3 o4 o5
      match R, o3, o4, o5, hsu, hr with
      | [], o3, o4, o5, hsu, hr =>
        have hsu : fuQ g S (q + 1) = fuQ g S q := by rw [hsu]; simp [fulS]
        have hr0 : (⟨l, []⟩ : Rule).right.length = 0 := rfl
        repeat' first | ((first | refine Br.dec ?_ ?_ | refine Br.eqi ?_ ?_) <;> intro h <;> try (exfalso; omega)) | (simp (disch := first | omega | (simp only [vlen]; first | done | omega)) only [hr, vfu, ↓vAq, vBq, ↓reduceIte, Nat.reduceBEq, Nat.reduceEqDiff, Nat.reduceLT, Nat.reduceLeDiff, Nat.reduceAdd, Nat.reduceMul, Nat.reduceSub, reduceCtorEq, Int.reduceToNat]) | (refine Br.mk ?_ ?_ <;> intro h) | (refine BrN.mk (fun h => ?_) ?_) | (refine AltVC.mk ?_ ?_)
        refine loopK.mk (q + 1) (by simp (disch := first | omega | (simp only [vlen]; first | done | omega)) only [vfu, ↓vAq, vBq, ↓reduceIte, Nat.reduceBEq, Nat.reduceEqDiff, Nat.reduceLT, Nat.reduceLeDiff, Nat.reduceAdd, Nat.reduceMul, Nat.reduceSub, reduceCtorEq, Int.reduceToNat]) (by show q + 1 ≤ _; omega) (by show g.rules.length - (q + 1) < g.rules.length - q; omega) ?_
        rw [hsu]
        (simp (disch := first | omega | (simp only [vlen]; first | done | omega)) only [Fits_u, Fits_m, Fits_nil, List.length_append, vfu, ↓vAq, vBq, ↓reduceIte, Nat.reduceBEq, Nat.reduceEqDiff, Nat.reduceLT, Nat.reduceLeDiff, Nat.reduceAdd, Nat.reduceMul, Nat.reduceSub, reduceCtorEq, Int.reduceToNat] <;> (repeat' first | rfl | apply And.intro))
      | [x], o3, o4, o5, hsu, hr =>
        have hsu : fuQ g S (q + 1) = fuQ g S q ++ [⟨l, [x]⟩] := by rw [hsu]; simp [fulS]
        have hsl2 : (fuQ g S (q + 1)).length = (fuQ g S q).length + 1 := by rw [hsu]; simp
        repeat' first | ((first | refine Br.dec ?_ ?_ | refine Br.eqi ?_ ?_) <;> intro h <;> try (exfalso; omega)) | (simp (disch := first | omega | (simp only [vlen]; first | done | omega)) only [hr, vfu, ↓vAq, vBq, ↓reduceIte, Nat.reduceBEq, Nat.reduceEqDiff, Nat.reduceLT, Nat.reduceLeDiff, Nat.reduceAdd, Nat.reduceMul, Nat.reduceSub, reduceCtorEq, Int.reduceToNat]) | (refine Br.mk ?_ ?_ <;> intro h) | (refine BrN.mk (fun h => ?_) ?_) | (refine AltVC.mk ?_ ?_)
        refine loopK.mk (q + 1) (by simp (disch := first | omega | (simp only [vlen]; first | done | omega)) only [vfu, ↓vAq, vBq, ↓reduceIte, Nat.reduceBEq, Nat.reduceEqDiff, Nat.reduceLT, Nat.reduceLeDiff, Nat.reduceAdd, Nat.reduceMul, Nat.reduceSub, reduceCtorEq, Int.reduceToNat]) (by show q + 1 ≤ _; omega) (by show g.rules.length - (q + 1) < g.rules.length - q; omega) ?_
        rw [hsl2, hsu]
        (simp (disch := first | omega | (simp only [vlen]; first | done | omega)) only [Fits_u, Fits_m, Fits_nil, List.length_append, vfu, ↓vAq, vBq, ↓reduceIte, Nat.reduceBEq, Nat.reduceEqDiff, Nat.reduceLT, Nat.reduceLeDiff, Nat.reduceAdd, Nat.reduceMul, Nat.reduceSub, reduceCtorEq, Int.reduceToNat] <;> (repeat' first | rfl | apply And.intro))
        all_goals trace_state
      | [x, y], o3, o4, o5, hsu, hr =>
        have hxk := o5 rfl x (by simp)
        have hyk := o5 rfl y (by simp)
        have hxn := o4 x (by simp)
        have hyn := o4 y (by simp)
        obtain ⟨xn, hxe⟩ : ∃ xn : Nat, x - g.k = xn := ⟨(x - g.k).toNat, by omega⟩
        obtain ⟨yn, hye⟩ : ∃ yn : Nat, y - g.k = yn := ⟨(y - g.k).toNat, by omega⟩
        have hhx := has_spec S xn (by omega) (by omega)
        have hhy := has_spec S yn (by omega) (by omega)
        have hnx : nuB S (x - g.k) = S.testBit xn := by rw [hxe]; rfl
        have hny : nuB S (y - g.k) = S.testBit yn := by rw [hye]; rfl
        have e1 : ([x, y] : List Int).getD ((1 : Int) - 0).toNat 0 = y := rfl
        have e2 : ([x, y] : List Int).getD ((0 : Int) + 1).toNat 0 = y := rfl
        have e3 : ([x, y] : List Int).getD ((1 : Int) - (0 + 1)).toNat 0 = x := rfl
        have e4 : ([x, y] : List Int).getD (0 : Int).toNat 0 = x := rfl
        have f0 := @fuI_0 (nuB S) g.k ⟨l, [x, y]⟩ x y
        have f1 := @fuI_1 (nuB S) g.k ⟨l, [x, y]⟩ x y
        have f2 := @fuI_2 (nuB S) g.k ⟨l, [x, y]⟩ x y rfl
        repeat' first | ((first | refine Br.dec ?_ ?_ | refine Br.eqi ?_ ?_) <;> intro h <;> try (exfalso; omega)) | (simp (disch := first | omega | (simp only [vlen]; first | done | omega)) only [hr, vfu, ↓vAq, vBq, ↓reduceIte, Nat.reduceBEq, Nat.reduceEqDiff, Nat.reduceLT, Nat.reduceLeDiff, Nat.reduceAdd, Nat.reduceMul, Nat.reduceSub, reduceCtorEq, Int.reduceToNat]) | (refine Br.mk ?_ ?_ <;> intro h) | (refine BrN.mk (fun h => ?_) ?_) | (refine AltVC.mk ?_ ?_)
        refine LoopVC.mk (X := Nat) (fun i => [(33, iv .i64 i), (4, .ref 2 2 0 (fuQ g S q ++ fuI (nuB S) g.k ⟨l, [x, y]⟩ x y i).length)]) (fun i => [(0, ⟨4, [[iv .i64 g.k, iv .i64 g.n, iv .i64 g.start, .sl 2 (tbl rulD g.rules)]], true, false, .fix⟩), (2, ⟨2, tbl rulD (fuQ g S q ++ fuI (nuB S) g.k ⟨l, [x, y]⟩ x y i), true, false, .arr⟩), (3, ⟨2, [[iv .i64 l, .sl 1 (i64s [x, y])]], true, false, .fix⟩)]) (fun i => 2 - i) (fun i => i ≤ 2) 0 (by show 0 ≤ 2; omega) ?_ ?_
        · rw [f0]
          (simp (disch := first | omega | (simp only [vlen]; first | done | omega)) only [Fits_u, Fits_m, Fits_nil, List.length_append, vfu, ↓vAq, vBq, ↓reduceIte, Nat.reduceBEq, Nat.reduceEqDiff, Nat.reduceLT, Nat.reduceLeDiff, Nat.reduceAdd, Nat.reduceMul, Nat.reduceSub, reduceCtorEq, Int.reduceToNat] <;> (repeat' first | rfl | apply And.intro))
          all_goals trace_state
        · intro i hi
          have hfl := @fuI_len (nuB S) g.k ⟨l, [x, y]⟩ x y i
          match i, hi, hfl with
          | 0, _, hfl =>
            rw [f0]
            repeat' first | ((first | refine Br.dec ?_ ?_ | refine Br.eqi ?_ ?_) <;> intro h <;> try (exfalso; omega)) | (simp (disch := first | omega | (simp only [vlen]; first | done | omega)) only [hxe, vfu, ↓vAq, vBq, ↓reduceIte, Nat.reduceBEq, Nat.reduceEqDiff, Nat.reduceLT, Nat.reduceLeDiff, Nat.reduceAdd, Nat.reduceMul, Nat.reduceSub, reduceCtorEq, Int.reduceToNat]) | (refine Br.mk ?_ ?_ <;> intro h) | (refine BrN.mk (fun h => ?_) ?_) | (refine AltVC.mk ?_ ?_)
            refine CallVC.eq hhx ?_
            cases hb : S.testBit xn with
            | true =>
              rw [hnx, hb, if_pos rfl] at f1
              repeat' first | ((first | refine Br.dec ?_ ?_ | refine Br.eqi ?_ ?_) <;> intro h <;> try (exfalso; omega)) | (simp (disch := first | omega | (simp only [vlen]; first | done | omega)) only [hb, e1, e2, e3, e4, vfu, ↓vAq, vBq, ↓reduceIte, Nat.reduceBEq, Nat.reduceEqDiff, Nat.reduceLT, Nat.reduceLeDiff, Nat.reduceAdd, Nat.reduceMul, Nat.reduceSub, reduceCtorEq, Int.reduceToNat]) | (refine Br.mk ?_ ?_ <;> intro h) | (refine BrN.mk (fun h => ?_) ?_) | (refine AltVC.mk ?_ ?_)
              refine loopK.frz 5 ?_
              repeat' first | ((first | refine Br.dec ?_ ?_ | refine Br.eqi ?_ ?_) <;> intro h <;> try (exfalso; omega)) | (simp (disch := first | omega | (simp only [vlen]; first | done | omega)) only [vfu, ↓vAq, vBq, ↓reduceIte, Nat.reduceBEq, Nat.reduceEqDiff, Nat.reduceLT, Nat.reduceLeDiff, Nat.reduceAdd, Nat.reduceMul, Nat.reduceSub, reduceCtorEq, Int.reduceToNat]) | (refine Br.mk ?_ ?_ <;> intro h) | (refine BrN.mk (fun h => ?_) ?_) | (refine AltVC.mk ?_ ?_)
              refine loopK.flt 2 ?_
              repeat' first | ((first | refine Br.dec ?_ ?_ | refine Br.eqi ?_ ?_) <;> intro h <;> try (exfalso; omega)) | (simp (disch := first | omega | (simp only [vlen]; first | done | omega)) only [vfu, ↓vAq, vBq, ↓reduceIte, Nat.reduceBEq, Nat.reduceEqDiff, Nat.reduceLT, Nat.reduceLeDiff, Nat.reduceAdd, Nat.reduceMul, Nat.reduceSub, reduceCtorEq, Int.reduceToNat]) | (refine Br.mk ?_ ?_ <;> intro h) | (refine BrN.mk (fun h => ?_) ?_) | (refine AltVC.mk ?_ ?_)
              refine loopK.mk 1 (by simp (disch := first | omega | (simp only [vlen]; first | done | omega)) only [vfu, ↓vAq, vBq, ↓reduceIte, Nat.reduceBEq, Nat.reduceEqDiff, Nat.reduceLT, Nat.reduceLeDiff, Nat.reduceAdd, Nat.reduceMul, Nat.reduceSub, reduceCtorEq, Int.reduceToNat]) (by show 1 ≤ 2; omega) (by show 2 - 1 < 2 - 0; omega) ?_
              rw [f1, show fuQ g S q ++ [(⟨l, [x, y]⟩ : Rule), ⟨l, [y]⟩] = fuQ g S q ++ [(⟨l, [x, y]⟩ : Rule)] ++ [⟨l, [y]⟩] by simp]
              (simp (disch := first | omega | (simp only [vlen]; first | done | omega)) only [Fits_u, Fits_m, Fits_nil, List.length_append, vfu, ↓vAq, vBq, ↓reduceIte, Nat.reduceBEq, Nat.reduceEqDiff, Nat.reduceLT, Nat.reduceLeDiff, Nat.reduceAdd, Nat.reduceMul, Nat.reduceSub, reduceCtorEq, Int.reduceToNat] <;> (repeat' first | rfl | apply And.intro))
              all_goals (rw [← rl_app1, ← rl_app1, ← rl_app1]; rfl)
            | false =>
              rw [hnx, hb, if_neg (by decide)] at f1
              repeat' first | ((first | refine Br.dec ?_ ?_ | refine Br.eqi ?_ ?_) <;> intro h <;> try (exfalso; omega)) | (simp (disch := first | omega | (simp only [vlen]; first | done | omega)) only [hb, e1, e2, e3, e4, vfu, ↓vAq, vBq, ↓reduceIte, Nat.reduceBEq, Nat.reduceEqDiff, Nat.reduceLT, Nat.reduceLeDiff, Nat.reduceAdd, Nat.reduceMul, Nat.reduceSub, reduceCtorEq, Int.reduceToNat]) | (refine Br.mk ?_ ?_ <;> intro h) | (refine BrN.mk (fun h => ?_) ?_) | (refine AltVC.mk ?_ ?_)
              refine loopK.mk 1 (by simp (disch := first | omega | (simp only [vlen]; first | done | omega)) only [vfu, ↓vAq, vBq, ↓reduceIte, Nat.reduceBEq, Nat.reduceEqDiff, Nat.reduceLT, Nat.reduceLeDiff, Nat.reduceAdd, Nat.reduceMul, Nat.reduceSub, reduceCtorEq, Int.reduceToNat]) (by show 1 ≤ 2; omega) (by show 2 - 1 < 2 - 0; omega) ?_
              rw [f1]
              (simp (disch := first | omega | (simp only [vlen]; first | done | omega)) only [Fits_u, Fits_m, Fits_nil, List.length_append, vfu, ↓vAq, vBq, ↓reduceIte, Nat.reduceBEq, Nat.reduceEqDiff, Nat.reduceLT, Nat.reduceLeDiff, Nat.reduceAdd, Nat.reduceMul, Nat.reduceSub, reduceCtorEq, Int.reduceToNat] <;> (repeat' first | rfl | apply And.intro))
              all_goals trace_state
          | 1, _, hfl =>
            have f12 := @fuI_12 (nuB S) g.k ⟨l, [x, y]⟩ x y
            obtain ⟨F, hF⟩ : ∃ F, fuQ g S q ++ fuI (nuB S) g.k ⟨l, [x, y]⟩ x y 1 = F := ⟨_, rfl⟩
            have hFl : F.length ≤ 3 * q + 3 := by rw [← hF, List.length_append]; omega
            rw [hF]
            repeat' first | ((first | refine Br.dec ?_ ?_ | refine Br.eqi ?_ ?_) <;> intro h <;> try (exfalso; omega)) | (simp (disch := first | omega | (simp only [vlen]; first | done | omega)) only [hye, e1, e2, e3, e4, vfu, ↓vAq, vBq, ↓reduceIte, Nat.reduceBEq, Nat.reduceEqDiff, Nat.reduceLT, Nat.reduceLeDiff, Nat.reduceAdd, Nat.reduceMul, Nat.reduceSub, reduceCtorEq, Int.reduceToNat]) | (refine Br.mk ?_ ?_ <;> intro h) | (refine BrN.mk (fun h => ?_) ?_) | (refine AltVC.mk ?_ ?_)
            refine CallVC.eq hhy ?_
            cases hb : S.testBit yn with
            | true =>
              rw [hny, hb, if_pos rfl] at f12
              repeat' first | ((first | refine Br.dec ?_ ?_ | refine Br.eqi ?_ ?_) <;> intro h <;> try (exfalso; omega)) | (simp (disch := first | omega | (simp only [vlen]; first | done | omega)) only [hb, e1, e2, e3, e4, vfu, ↓vAq, vBq, ↓reduceIte, Nat.reduceBEq, Nat.reduceEqDiff, Nat.reduceLT, Nat.reduceLeDiff, Nat.reduceAdd, Nat.reduceMul, Nat.reduceSub, reduceCtorEq, Int.reduceToNat]) | (refine Br.mk ?_ ?_ <;> intro h) | (refine BrN.mk (fun h => ?_) ?_) | (refine AltVC.mk ?_ ?_)
              refine loopK.frz 5 ?_
              repeat' first | ((first | refine Br.dec ?_ ?_ | refine Br.eqi ?_ ?_) <;> intro h <;> try (exfalso; omega)) | (simp (disch := first | omega | (simp only [vlen]; first | done | omega)) only [vfu, ↓vAq, vBq, ↓reduceIte, Nat.reduceBEq, Nat.reduceEqDiff, Nat.reduceLT, Nat.reduceLeDiff, Nat.reduceAdd, Nat.reduceMul, Nat.reduceSub, reduceCtorEq, Int.reduceToNat]) | (refine Br.mk ?_ ?_ <;> intro h) | (refine BrN.mk (fun h => ?_) ?_) | (refine AltVC.mk ?_ ?_)
              refine loopK.flt 2 ?_
              repeat' first | ((first | refine Br.dec ?_ ?_ | refine Br.eqi ?_ ?_) <;> intro h <;> try (exfalso; omega)) | (simp (disch := first | omega | (simp only [vlen]; first | done | omega)) only [vfu, ↓vAq, vBq, ↓reduceIte, Nat.reduceBEq, Nat.reduceEqDiff, Nat.reduceLT, Nat.reduceLeDiff, Nat.reduceAdd, Nat.reduceMul, Nat.reduceSub, reduceCtorEq, Int.reduceToNat]) | (refine Br.mk ?_ ?_ <;> intro h) | (refine BrN.mk (fun h => ?_) ?_) | (refine AltVC.mk ?_ ?_)
              refine loopK.mk 2 (by simp (disch := first | omega | (simp only [vlen]; first | done | omega)) only [vfu, ↓vAq, vBq, ↓reduceIte, Nat.reduceBEq, Nat.reduceEqDiff, Nat.reduceLT, Nat.reduceLeDiff, Nat.reduceAdd, Nat.reduceMul, Nat.reduceSub, reduceCtorEq, Int.reduceToNat]) (by show 2 ≤ 2; omega) (by show 2 - 2 < 2 - 1; omega) ?_
              rw [f12, ← List.append_assoc, hF]
              (simp (disch := first | omega | (simp only [vlen]; first | done | omega)) only [Fits_u, Fits_m, Fits_nil, List.length_append, vfu, ↓vAq, vBq, ↓reduceIte, Nat.reduceBEq, Nat.reduceEqDiff, Nat.reduceLT, Nat.reduceLeDiff, Nat.reduceAdd, Nat.reduceMul, Nat.reduceSub, reduceCtorEq, Int.reduceToNat] <;> (repeat' first | rfl | apply And.intro))
              all_goals (rw [tbl_app]; rfl)
            | false =>
              rw [hny, hb, if_neg (by decide), List.append_nil] at f12
              repeat' first | ((first | refine Br.dec ?_ ?_ | refine Br.eqi ?_ ?_) <;> intro h <;> try (exfalso; omega)) | (simp (disch := first | omega | (simp only [vlen]; first | done | omega)) only [hb, e1, e2, e3, e4, vfu, ↓vAq, vBq, ↓reduceIte, Nat.reduceBEq, Nat.reduceEqDiff, Nat.reduceLT, Nat.reduceLeDiff, Nat.reduceAdd, Nat.reduceMul, Nat.reduceSub, reduceCtorEq, Int.reduceToNat]) | (refine Br.mk ?_ ?_ <;> intro h) | (refine BrN.mk (fun h => ?_) ?_) | (refine AltVC.mk ?_ ?_)
              refine loopK.mk 2 (by simp (disch := first | omega | (simp only [vlen]; first | done | omega)) only [vfu, ↓vAq, vBq, ↓reduceIte, Nat.reduceBEq, Nat.reduceEqDiff, Nat.reduceLT, Nat.reduceLeDiff, Nat.reduceAdd, Nat.reduceMul, Nat.reduceSub, reduceCtorEq, Int.reduceToNat]) (by show 2 ≤ 2; omega) (by show 2 - 2 < 2 - 1; omega) ?_
              rw [f12, hF]
              (simp (disch := first | omega | (simp only [vlen]; first | done | omega)) only [Fits_u, Fits_m, Fits_nil, List.length_append, vfu, ↓vAq, vBq, ↓reduceIte, Nat.reduceBEq, Nat.reduceEqDiff, Nat.reduceLT, Nat.reduceLeDiff, Nat.reduceAdd, Nat.reduceMul, Nat.reduceSub, reduceCtorEq, Int.reduceToNat] <;> (repeat' first | rfl | apply And.intro))
              all_goals trace_state
          | 2, _, hfl =>
            rw [f2, ← hsu]
            repeat' first | ((first | refine Br.dec ?_ ?_ | refine Br.eqi ?_ ?_) <;> intro h <;> try (exfalso; omega)) | (simp (disch := first | omega | (simp only [vlen]; first | done | omega)) only [vfu, ↓vAq, vBq, ↓reduceIte, Nat.reduceBEq, Nat.reduceEqDiff, Nat.reduceLT, Nat.reduceLeDiff, Nat.reduceAdd, Nat.reduceMul, Nat.reduceSub, reduceCtorEq, Int.reduceToNat]) | (refine Br.mk ?_ ?_ <;> intro h) | (refine BrN.mk (fun h => ?_) ?_) | (refine AltVC.mk ?_ ?_)
            refine loopK.mk (q + 1) (by simp (disch := first | omega | (simp only [vlen]; first | done | omega)) only [vfu, ↓vAq, vBq, ↓reduceIte, Nat.reduceBEq, Nat.reduceEqDiff, Nat.reduceLT, Nat.reduceLeDiff, Nat.reduceAdd, Nat.reduceMul, Nat.reduceSub, reduceCtorEq, Int.reduceToNat]) (by show q + 1 ≤ _; omega) (by show g.rules.length - (q + 1) < g.rules.length - q; omega) ?_
            (simp (disch := first | omega | (simp only [vlen]; first | done | omega)) only [Fits_u, Fits_m, Fits_nil, List.length_append, vfu, ↓vAq, vBq, ↓reduceIte, Nat.reduceBEq, Nat.reduceEqDiff, Nat.reduceLT, Nat.reduceLeDiff, Nat.reduceAdd, Nat.reduceMul, Nat.reduceSub, reduceCtorEq, Int.reduceToNat] <;> (repeat' first | rfl | apply And.intro))
            all_goals trace_state
    · have hqe : q = g.rules.length := by omega
      have e1 : fuQ g S q = (fuG g (nuB S)).rules := by unfold fuQ; rw [hqe, List.take_length]; rfl
      rw [e1]
      repeat' first | ((first | refine Br.dec ?_ ?_ | refine Br.eqi ?_ ?_) <;> intro h <;> try (exfalso; omega)) | (simp (disch := first | omega | (simp only [vlen]; first | done | omega)) only [graD_eq, vfu, ↓vAq, vBq, ↓reduceIte, Nat.reduceBEq, Nat.reduceEqDiff, Nat.reduceLT, Nat.reduceLeDiff, Nat.reduceAdd, Nat.reduceMul, Nat.reduceSub, reduceCtorEq, Int.reduceToNat]) | (refine Br.mk ?_ ?_ <;> intro h) | (refine BrN.mk (fun h => ?_) ?_) | (refine AltVC.mk ?_ ?_)
      exact fin_mk ⟨S, hS, rfl⟩
end Go.Proofs.Ytplkkacfjepgpaa

namespace Go.Proofs.Ytplkkacfjepgpaa
open Go.Dm
set_option linter.unusedSimpArgs false
set_option linter.unnecessarySimpa false
set_option linter.unusedVariables false
set_option linter.defProp false
structure CI (k N a : Int) (rs : List Rule) (L : List Int) (i q : Nat) : Prop where
  nd : L.Nodup
  rg : ∀ b, b ∈ L → 0 ≤ b ∧ b < N
  ch : ∀ b, b ∈ L → Chn k rs a b
  at' : a ∈ L
  dn : ∀ j, j < i → ∀ c, 0 ≤ c → (⟨L.getD j 0, [k + c]⟩ : Rule) ∈ rs → c ∈ L
  cur : ∀ c, 0 ≤ c → (⟨L.getD i 0, [k + c]⟩ : Rule) ∈ rs.take q → c ∈ L
theorem CI.init {k N a : Int} {rs : List Rule} (h : 0 ≤ a ∧ a < N) : CI k N a rs [a] 0 0 :=
  ⟨by simp, fun b hb => by rw [List.mem_singleton.1 hb]; exact h, fun b hb => by rw [List.mem_singleton.1 hb]; exact .refl a, by simp, fun j hj => absurd hj (Nat.not_lt_zero _), fun c _ hc => by simp at hc⟩
theorem CI.skip {k N a : Int} {rs : List Rule} {L : List Int} {i q : Nat} (h : CI k N a rs L i q) (hq : q < rs.length) (hn : ∀ c, 0 ≤ c → rs.getD q default = ⟨L.getD i 0, [k + c]⟩ → c ∈ L) : CI k N a rs L i (q + 1) :=
  ⟨h.nd, h.rg, h.ch, h.at', h.dn, fun c h0 hc => by
    rw [take_succ_getD hq default, List.mem_append, List.mem_singleton] at hc
    exact hc.elim (h.cur c h0) fun e => hn c h0 e.symm⟩
theorem CI.add {k N a x : Int} {rs : List Rule} {L : List Int} {i q : Nat} (h : CI k N a rs L i q) (hi : i < L.length) (hq : q < rs.length) (hr : rs.getD q default = ⟨L.getD i 0, [x]⟩) (hx : k ≤ x ∧ x < k + N) (hn : x - k ∉ L) : CI k N a rs (L ++ [x - k]) i (q + 1) := by
  have hm := getD_mem' (l := rs) (i := q) hq
  rw [hr] at hm
  have hg : ∀ j, j < L.length → (L ++ [x - k]).getD j 0 = L.getD j 0 := fun j hj => by simp only [List.getD, List.getElem?_append_left hj]
  refine ⟨?_, fun b hb => ?_, fun b hb => ?_, List.mem_append_left _ h.at', fun j hj c h0 hc => ?_, fun c h0 hc => ?_⟩
  · rw [List.nodup_append]
    exact ⟨h.nd, by simp, fun a ha b hb e => hn (by rw [← List.mem_singleton.1 hb, ← e]; exact ha)⟩
  · rcases List.mem_append.1 hb with hb | hb
    · exact h.rg b hb
    · rw [List.mem_singleton.1 hb]; omega
  · rcases List.mem_append.1 hb with hb | hb
    · exact h.ch b hb
    · rw [List.mem_singleton.1 hb]
      exact .step (h.ch _ (getD_mem' hi)) (by rw [show k + (x - k) = x by omega]; exact hm) (by omega)
  · rw [hg j (by omega)] at hc
    exact List.mem_append_left _ (h.dn j hj c h0 hc)
  · rw [hg i hi] at hc
    rw [take_succ_getD hq default, List.mem_append, List.mem_singleton] at hc
    rcases hc with hc | hc
    · exact List.mem_append_left _ (h.cur c h0 hc)
    · rw [hr] at hc
      have e : [k + c] = [x] := congrArg Rule.right hc
      have e2 : k + c = x := by simpa using e
      exact List.mem_append_right _ (List.mem_singleton.2 (by omega))
theorem CI.next {k N a : Int} {rs : List Rule} {L : List Int} {i : Nat} (h : CI k N a rs L i rs.length) : CI k N a rs L (i + 1) 0 :=
  ⟨h.nd, h.rg, h.ch, h.at', fun j hj c h0 hc => by
    by_cases e : j = i
    · subst e; exact h.cur c h0 (by rwa [List.take_length])
    · exact h.dn j (by omega) c h0 hc, fun c _ hc => by simp at hc⟩
theorem nodup_lenC : ∀ (n : Nat) (l : List Nat), l.Nodup → (∀ x, x ∈ l → x < n) → l.length ≤ n
  | 0, l, _, h => by
    cases l with
    | nil => simp
    | cons x l => have := h x (by simp); omega
  | n + 1, l, hd, h => by
    by_cases e : n ∈ l
    · have := nodup_lenC n (l.erase n) (hd.erase n) fun x hx => by
        have h1 := (hd.mem_erase_iff).1 hx
        have := h x h1.2
        have := h1.1
        omega
      rw [List.length_erase_of_mem e] at this
      omega
    · have := nodup_lenC n l hd fun x hx => by
        have h1 := h x hx
        have : x ≠ n := fun h => e (h ▸ hx)
        omega
      omega
theorem int_nodup {N : Nat} {L : List Int} (hd : L.Nodup) (h : ∀ b, b ∈ L → 0 ≤ b ∧ b < N) : L.length ≤ N := by
  have h2 : (L.map Int.toNat).Nodup := by
    rw [List.Nodup, List.pairwise_map]
    exact List.Pairwise.imp_of_mem (fun {a b} ha hb hne e => hne (by have := h a ha; have := h b hb; omega)) hd
  have := nodup_lenC N _ h2 fun x hx => by
    obtain ⟨b, hb, rfl⟩ := List.mem_map.1 hx
    have := h b hb; omega
  rwa [List.length_map] at this
theorem CI.len {k a : Int} {N : Nat} {rs : List Rule} {L : List Int} {i q : Nat} (h : CI k N a rs L i q) : L.length ≤ N := int_nodup h.nd h.rg
theorem CI.fin {k N a : Int} {rs : List Rule} {L : List Int} {i q : Nat} (h : CI k N a rs L i q) (hi : L.length ≤ i) (b : Int) : b ∈ L ↔ Chn k rs a b := by
  refine ⟨h.ch b, fun hc => ?_⟩
  induction hc with
  | refl => exact h.at'
  | @step b c _ hr h0 ih =>
    obtain ⟨j, hj, e⟩ := List.getElem_of_mem ih
    refine h.dn j (by omega) c h0 ?_
    rw [show L.getD j 0 = b by simp [List.getD, hj, e]]; exact hr
set_option maxRecDepth 10000 in
set_option maxHeartbeats 4000000 in
theorem idx_int (l : List Int) (x : Int) (hl : l.length ≤ 9223372036854775807) : Dm.Spec Try.prog 83 [.sl 1 (i64s l), iv .i64 x] (· = .v (.int .i64 (idxOf (fun y => decide (y = x)) l))) := by
  refine spec_of_vc mixed Try.func83 c83 (by rw [show Try.f83.ntmps = _ from Try.ntmps83]; simp) ?_
  unfold m83 r83
  repeat' first | ((first | refine Br.dec ?_ ?_ | refine Br.eqi ?_ ?_) <;> intro h <;> try (exfalso; omega)) | (simp (disch := first | omega | (simp only [vlen]; first | done | omega)) only [vfu, ↓vAq, vBq, ↓reduceIte, Nat.reduceBEq, Nat.reduceEqDiff, Nat.reduceLT, Nat.reduceLeDiff, Nat.reduceAdd, Nat.reduceMul, Nat.reduceSub, reduceCtorEq, Int.reduceToNat]) | (refine Br.mk ?_ ?_ <;> intro h) | (refine BrN.mk (fun h => ?_) ?_) | (refine AltVC.mk ?_ ?_)
  refine LoopVC.mk (X := Nat) (fun i => [(8, iv .i64 i)]) (fun _ => []) (fun i => l.length - i) (fun i => i ≤ l.length ∧ ∀ j, j < i → decide (l.getD j default = x) = false) 0 ⟨by omega, by omega⟩ ?_ ?_
  · (simp (disch := first | omega | (simp only [vlen]; first | done | omega)) only [Fits_u, Fits_m, Fits_nil, List.length_append, vfu, ↓vAq, vBq, ↓reduceIte, Nat.reduceBEq, Nat.reduceEqDiff, Nat.reduceLT, Nat.reduceLeDiff, Nat.reduceAdd, Nat.reduceMul, Nat.reduceSub, reduceCtorEq, Int.reduceToNat] <;> (repeat' first | rfl | apply And.intro))
  · rintro i ⟨hi, hn⟩
    have hdd : ∀ j, l.getD j default = l.getD j 0 := fun j => rfl
    repeat' first | ((first | refine Br.dec ?_ ?_ | refine Br.eqi ?_ ?_) <;> intro h <;> try (exfalso; omega)) | (simp (disch := first | omega | (simp only [vlen]; first | done | omega)) only [vfu, ↓vAq, vBq, ↓reduceIte, Nat.reduceBEq, Nat.reduceEqDiff, Nat.reduceLT, Nat.reduceLeDiff, Nat.reduceAdd, Nat.reduceMul, Nat.reduceSub, reduceCtorEq, Int.reduceToNat]) | (refine Br.mk ?_ ?_ <;> intro h) | (refine BrN.mk (fun h => ?_) ?_) | (refine AltVC.mk ?_ ?_)
    · refine fin_mk (viEq ?_)
      rw [idxOf_hit (i := i) (by omega) (decide_eq_true (p := l.getD i default = x) (by rw [hdd]; omega)) hn]
    · refine loopK.mk (i + 1) (by simp (disch := first | omega | (simp only [vlen]; first | done | omega)) only [vfu, ↓vAq, vBq, ↓reduceIte, Nat.reduceBEq, Nat.reduceEqDiff, Nat.reduceLT, Nat.reduceLeDiff, Nat.reduceAdd, Nat.reduceMul, Nat.reduceSub, reduceCtorEq, Int.reduceToNat]) ⟨by omega, fun j hj => ?_⟩ (by omega) (by (simp (disch := first | omega | (simp only [vlen]; first | done | omega)) only [Fits_u, Fits_m, Fits_nil, List.length_append, vfu, ↓vAq, vBq, ↓reduceIte, Nat.reduceBEq, Nat.reduceEqDiff, Nat.reduceLT, Nat.reduceLeDiff, Nat.reduceAdd, Nat.reduceMul, Nat.reduceSub, reduceCtorEq, Int.reduceToNat] <;> (repeat' first | rfl | apply And.intro)))
      by_cases e : j = i
      · subst e; exact decide_eq_false (by rw [hdd]; omega)
      · exact hn j (by omega)
    · refine fin_mk (viEq ?_)
      rw [idxOf_miss (by omega) hn]
theorem any_mem {l : List Int} {x : Int} : (l.any fun y => decide (y = x)) = decide (x ∈ l) := by
  rw [Bool.eq_iff_iff]
  simp
set_option maxRecDepth 10000 in
set_option maxHeartbeats 4000000 in
theorem con_int (l : List Int) (x : Int) (hl : l.length ≤ 9223372036854775807) : Dm.Spec Try.prog 76 [.sl 1 (i64s l), iv .i64 x] (· = .v (.bool (decide (x ∈ l)))) := by
  refine spec_of_vc mixed Try.func76 c76 (by rw [show Try.f76.ntmps = _ from Try.ntmps76]; simp) ?_
  unfold m76 r76
  repeat' first | ((first | refine Br.dec ?_ ?_ | refine Br.eqi ?_ ?_) <;> intro h <;> try (exfalso; omega)) | (simp (disch := first | omega | (simp only [vlen]; first | done | omega)) only [vfu, ↓vAq, vBq, ↓reduceIte, Nat.reduceBEq, Nat.reduceEqDiff, Nat.reduceLT, Nat.reduceLeDiff, Nat.reduceAdd, Nat.reduceMul, Nat.reduceSub, reduceCtorEq, Int.reduceToNat]) | (refine Br.mk ?_ ?_ <;> intro h) | (refine BrN.mk (fun h => ?_) ?_) | (refine AltVC.mk ?_ ?_)
  refine CallVC.eq (idx_int l x hl) ?_
  repeat' first | ((first | refine Br.dec ?_ ?_ | refine Br.eqi ?_ ?_) <;> intro h <;> try (exfalso; omega)) | (simp (disch := first | omega | (simp only [vlen]; first | done | omega)) only [vfu, ↓vAq, vBq, ↓reduceIte, Nat.reduceBEq, Nat.reduceEqDiff, Nat.reduceLT, Nat.reduceLeDiff, Nat.reduceAdd, Nat.reduceMul, Nat.reduceSub, reduceCtorEq, Int.reduceToNat]) | (refine Br.mk ?_ ?_ <;> intro h) | (refine BrN.mk (fun h => ?_) ?_) | (refine AltVC.mk ?_ ?_)
  rw [← any_mem]
  exact fin_mk (vbEq idxOf_geq)
set_option maxRecDepth 10000 in
set_option maxHeartbeats 4000000 in
theorem single_spec (k : Int) (r : Rule) (hr : r.right.length ≤ 9223372036854775807) : Dm.Spec Try.prog 53 [iv .i64 k, .ag (rulD r)] (· = .v (.bool (isSg k r))) := by
  refine spec_of_vc mixed Try.func53 c53 (by rw [show Try.f53.ntmps = _ from Try.ntmps53]; simp) ?_
  unfold m53 r53
  unfold isSg
  obtain ⟨l, R⟩ := r
  match R, hr with
  | [], _ =>
    repeat' first | ((first | refine Br.dec ?_ ?_ | refine Br.eqi ?_ ?_) <;> intro h <;> try (exfalso; omega)) | (simp (disch := first | omega | (simp only [vlen]; first | done | omega)) only [rulD_eq, vfu, ↓vAq, vBq, ↓reduceIte, Nat.reduceBEq, Nat.reduceEqDiff, Nat.reduceLT, Nat.reduceLeDiff, Nat.reduceAdd, Nat.reduceMul, Nat.reduceSub, reduceCtorEq, Int.reduceToNat]) | (refine Br.mk ?_ ?_ <;> intro h) | (refine BrN.mk (fun h => ?_) ?_) | (refine AltVC.mk ?_ ?_)
    exact fin_mk rfl
  | [y], _ =>
    have e : (decide (([y] : List Int).length = 1) && decide (k ≤ ([y] : List Int).getD 0 0)) = decide (k ≤ y) := by simp
    simp only [e]
    repeat' first | ((first | refine Br.dec ?_ ?_ | refine Br.eqi ?_ ?_) <;> intro h <;> try (exfalso; omega)) | (simp (disch := first | omega | (simp only [vlen]; first | done | omega)) only [rulD_eq, vfu, ↓vAq, vBq, ↓reduceIte, Nat.reduceBEq, Nat.reduceEqDiff, Nat.reduceLT, Nat.reduceLeDiff, Nat.reduceAdd, Nat.reduceMul, Nat.reduceSub, reduceCtorEq, Int.reduceToNat]) | (refine Br.mk ?_ ?_ <;> intro h) | (refine BrN.mk (fun h => ?_) ?_) | (refine AltVC.mk ?_ ?_)
    exact fin_mk rfl
  | y :: z :: t, hr =>
    have e : (decide ((y :: z :: t).length = 1) && decide (k ≤ (y :: z :: t).getD 0 0)) = false := by
      rw [decide_eq_false (by simp)]; rfl
    have hl : (y :: z :: t).length = t.length + 2 := by simp
    simp only [e]
    repeat' first | ((first | refine Br.dec ?_ ?_ | refine Br.eqi ?_ ?_) <;> intro h <;> try (exfalso; omega)) | (simp (disch := first | omega | (simp only [vlen]; first | done | omega)) only [rulD_eq, vfu, ↓vAq, vBq, ↓reduceIte, Nat.reduceBEq, Nat.reduceEqDiff, Nat.reduceLT, Nat.reduceLeDiff, Nat.reduceAdd, Nat.reduceMul, Nat.reduceSub, reduceCtorEq, Int.reduceToNat]) | (refine Br.mk ?_ ?_ <;> intro h) | (refine BrN.mk (fun h => ?_) ?_) | (refine AltVC.mk ?_ ?_)
    exact fin_mk rfl
def ch0 (a : Nat) (O : Nat → List Int) (j : Nat) : D := if j < a then .own false 1 (i64s (O j)) else .nl
section
variable {a j τ m : Nat} {O : Nat → List Int}
theorem ch0_clo : (ch0 a O j).clo' = true := by unfold ch0; split <;> first | rfl | exact clo'_nl
theorem ch0_kill : (ch0 a O j).kill τ = ch0 a O j := by unfold ch0; split <;> first | (simp [kill_oo]; done) | exact kill_nl
theorem ch0_trim : (ch0 a O j).trim m = ch0 a O j := by unfold ch0; split <;> first | (simp [trim_oo]; done) | exact trim_nl
theorem ch0_nl : ch0 a O a = .nl := if_neg (Nat.lt_irrefl _)
theorem ch0_zero : ch0 0 O j = .nl := if_neg (Nat.not_lt_zero _)
theorem ch0_step {L : List Int} : (if j = a then D.own false 1 (i64s L) else ch0 a O j) = ch0 (a + 1) (fun k => if k = a then L else O k) j := by
  unfold ch0
  by_cases e : j = a
  · rw [if_pos e, if_pos (by omega)]; simp only [if_pos e]
  · rw [if_neg e]
    by_cases h : j < a
    · rw [if_pos h, if_pos (by omega)]; simp only [if_neg e]
    · rw [if_neg h, if_neg (by omega)]
theorem ch0_all {N : Nat} : (tabD N fun j => ch0 N O j) = tabD N fun j => .own false 1 (i64s (O j)) := tabD_ext fun j hj => if_pos hj
end
theorem vwR_ch {n : Nat} {O : Nat → List Int} : vwR (tabD n fun j => .own false 1 (i64s (O j))) = tabD n fun j => .sl 1 (i64s (O j)) := by
  simp only [vwR, tabD, List.map_map]
  refine List.map_congr_left fun i _ => ?_
  simp only [Function.comp, List.map_cons, List.map_nil, vw_own, Bool.false_eq_true, if_false]
theorem obTabC {n : Nat} {f g : Nat → D} {a b b' : Bool} {c : Kd} (h : ∀ j, j < n → f j = g j) (hb : b = b') : some (⟨1, tabD n f, a, b, c⟩ : Ob) = some ⟨1, tabD n g, a, b', c⟩ := by rw [tabD_ext h, hb]
theorem i64s_app1 {L : List Int} {x : Int} : i64s L ++ [[D.v (.int .i64 x)]] = i64s (L ++ [x]) := by simp [i64s]
def vch := And.intro vfu <| And.intro @ch0_clo <| And.intro @ch0_kill <| And.intro @ch0_trim <| And.intro @ch0_nl <| And.intro @vwR_ch @i64s_app1
set_option maxRecDepth 10000 in
set_option maxHeartbeats 4000000 in
theorem chained_spec (k : Int) (hk : 1 ≤ k ∧ k ≤ 3) (N : Nat) (hN : 1 ≤ N ∧ N ≤ 31) (rs : List Rule) (hrs : rs.length ≤ 100000) (hok : ∀ r, r ∈ rs → ShOk k N r) : Dm.Spec Try.prog 52 [iv .i64 k, iv .i64 N, .sl 2 (tbl rulD rs)] (fun d => ∃ O : Nat → List Int, d = .sl 1 (tabD N fun j => .sl 1 (i64s (O j))) ∧ ∀ j, j < N → (O j).length ≤ N ∧ ∀ b, b ∈ O j ↔ Chn k rs j b) := by
  refine spec_of_vc mixed Try.func52 c52 (by rw [show Try.f52.ntmps = _ from Try.ntmps52]; simp) ?_
  unfold m52 r52
  repeat' first | ((first | refine Br.dec ?_ ?_ | refine Br.eqi ?_ ?_) <;> intro h <;> try (exfalso; omega)) | (simp (disch := first | omega | (simp only [vlen]; first | done | omega)) only [vch, ↓vAq, vBq, ↓reduceIte, Nat.reduceBEq, Nat.reduceEqDiff, Nat.reduceLT, Nat.reduceLeDiff, Nat.reduceAdd, Nat.reduceMul, Nat.reduceSub, reduceCtorEq, Int.reduceToNat]) | (refine Br.mk ?_ ?_ <;> intro h) | (refine BrN.mk (fun h => ?_) ?_) | (refine AltVC.mk ?_ ?_)
  rw [tabD_rep]
  refine LoopVC.mk (X := Nat × (Nat → List Int)) (fun x => [(7, .ref 1 1 0 N), (16, iv .i64 x.1)]) (fun x => [(1, ⟨1, tabD N fun j => ch0 x.1 x.2 j, true, decide (0 < x.1), .arr⟩)]) (fun x => N - x.1) (fun x => x.1 ≤ N ∧ ∀ j, j < x.1 → (x.2 j).length ≤ N ∧ ∀ b, b ∈ x.2 j ↔ Chn k rs j b) (0, fun _ => []) ⟨Nat.zero_le _, fun j h => absurd h (Nat.not_lt_zero _)⟩ ?_ ?_
  · (simp (disch := first | omega | (simp only [vlen]; first | done | omega)) only [Fits_u, Fits_m, Fits_nil, List.length_append, vch, ↓vAq, vBq, ↓reduceIte, Nat.reduceBEq, Nat.reduceEqDiff, Nat.reduceLT, Nat.reduceLeDiff, Nat.reduceAdd, Nat.reduceMul, Nat.reduceSub, reduceCtorEq, Int.reduceToNat] <;> (repeat' first | rfl | apply And.intro))
    all_goals first | exact obTabC (fun j hj => ch0_zero.symm) rfl | rfl | trace_state
  · rintro ⟨a, O⟩ ⟨ha, hO⟩
    simp only at ha hO ⊢
    by_cases hal : a < N
    · repeat' first | ((first | refine Br.dec ?_ ?_ | refine Br.eqi ?_ ?_) <;> intro h <;> try (exfalso; omega)) | (simp (disch := first | omega | (simp only [vlen]; first | done | omega)) only [vch, ↓vAq, vBq, ↓reduceIte, Nat.reduceBEq, Nat.reduceEqDiff, Nat.reduceLT, Nat.reduceLeDiff, Nat.reduceAdd, Nat.reduceMul, Nat.reduceSub, reduceCtorEq, Int.reduceToNat]) | (refine Br.mk ?_ ?_ <;> intro h) | (refine BrN.mk (fun h => ?_) ?_) | (refine AltVC.mk ?_ ?_)
      refine LoopVC.fold 2 1 a 0 true ?_
      repeat' first | ((first | refine Br.dec ?_ ?_ | refine Br.eqi ?_ ?_) <;> intro h <;> try (exfalso; omega)) | (simp (disch := first | omega | (simp only [vlen]; first | done | omega)) only [vch, ↓vAq, vBq, ↓reduceIte, Nat.reduceBEq, Nat.reduceEqDiff, Nat.reduceLT, Nat.reduceLeDiff, Nat.reduceAdd, Nat.reduceMul, Nat.reduceSub, reduceCtorEq, Int.reduceToNat]) | (refine Br.mk ?_ ?_ <;> intro h) | (refine BrN.mk (fun h => ?_) ?_) | (refine AltVC.mk ?_ ?_)
      refine Chk.mk (tabD_all fun j hj => by split <;> first | rfl | exact ch0_clo) ?_
      refine LoopVC.mk (X := Nat × List Int) (fun x => [(7, .ref 1 1 0 N), (9, iv .i64 x.1)]) (fun x => [(1, ⟨1, tabD N fun j => if j = a then .own false 1 (i64s x.2) else ch0 a O j, true, true, .arr⟩)]) (fun x => N - x.1) (fun x => CI k N a rs x.2 x.1 0 ∧ x.1 ≤ x.2.length) (0, [(a : Int)]) ⟨.init (by omega), Nat.zero_le _⟩ ?_ ?_
      · (simp (disch := first | omega | (simp only [vlen]; first | done | omega)) only [Fits_u, Fits_m, Fits_nil, List.length_append, vch, ↓vAq, vBq, ↓reduceIte, Nat.reduceBEq, Nat.reduceEqDiff, Nat.reduceLT, Nat.reduceLeDiff, Nat.reduceAdd, Nat.reduceMul, Nat.reduceSub, reduceCtorEq, Int.reduceToNat] <;> (repeat' first | rfl | apply And.intro))
        all_goals first | rfl | trace_state
      · rintro ⟨i, L⟩ ⟨hC, hi⟩
        simp only at hC hi ⊢
        have hLN := hC.len
        by_cases hil : i < L.length
        · repeat' first | ((first | refine Br.dec ?_ ?_ | refine Br.eqi ?_ ?_) <;> intro h <;> try (exfalso; omega)) | (simp (disch := first | omega | (simp only [vlen]; first | done | omega)) only [vch, ↓vAq, vBq, ↓reduceIte, Nat.reduceBEq, Nat.reduceEqDiff, Nat.reduceLT, Nat.reduceLeDiff, Nat.reduceAdd, Nat.reduceMul, Nat.reduceSub, reduceCtorEq, Int.reduceToNat]) | (refine Br.mk ?_ ?_ <;> intro h) | (refine BrN.mk (fun h => ?_) ?_) | (refine AltVC.mk ?_ ?_)
          refine LoopVC.fold 3 1 a 0 true ?_
          repeat' first | ((first | refine Br.dec ?_ ?_ | refine Br.eqi ?_ ?_) <;> intro h <;> try (exfalso; omega)) | (simp (disch := first | omega | (simp only [vlen]; first | done | omega)) only [vch, ↓vAq, vBq, ↓reduceIte, Nat.reduceBEq, Nat.reduceEqDiff, Nat.reduceLT, Nat.reduceLeDiff, Nat.reduceAdd, Nat.reduceMul, Nat.reduceSub, reduceCtorEq, Int.reduceToNat]) | (refine Br.mk ?_ ?_ <;> intro h) | (refine BrN.mk (fun h => ?_) ?_) | (refine AltVC.mk ?_ ?_)
          refine Chk.mk ⟨Nat.le_refl _, tabD_all fun j hj => by split <;> first | rfl | exact ch0_clo⟩ ?_
          refine LoopVC.mk (X := Nat × List Int) (fun x => [(7, .ref 1 1 0 N), (35, iv .i64 x.1)]) (fun x => [(1, ⟨1, tabD N fun j => if j = a then .own false 1 (i64s x.2) else ch0 a O j, true, true, .arr⟩)]) (fun x => rs.length - x.1) (fun x => CI k N a rs x.2 i x.1 ∧ x.1 ≤ rs.length ∧ i < x.2.length) (0, L) ⟨hC, Nat.zero_le _, hil⟩ ?_ ?_
          · (simp (disch := first | omega | (simp only [vlen]; first | done | omega)) only [Fits_u, Fits_m, Fits_nil, List.length_append, vch, ↓vAq, vBq, ↓reduceIte, Nat.reduceBEq, Nat.reduceEqDiff, Nat.reduceLT, Nat.reduceLeDiff, Nat.reduceAdd, Nat.reduceMul, Nat.reduceSub, reduceCtorEq, Int.reduceToNat] <;> (repeat' first | rfl | apply And.intro))
            all_goals first | rfl | trace_state
          · rintro ⟨q, L⟩ ⟨hC, hq, hil⟩
            simp only at hC hq hil ⊢
            have hLN := hC.len
            by_cases hql : q < rs.length
            · have hmr := getD_mem' (l := rs) (i := q) hql
              have ho := hok _ hmr
              obtain ⟨⟨l, R⟩, hr⟩ : ∃ r, rs.getD q default = r := ⟨_, rfl⟩
              rw [hr] at ho
              obtain ⟨⟨o1, o2⟩, o3, o4, o5⟩ := ho
              simp only at o1 o2 o3 o4 o5
              have hsg := single_spec k ⟨l, R⟩ (by show R.length ≤ _; omega)
              cases hs : isSg k ⟨l, R⟩ with
              | false =>
                rw [hs] at hsg
                repeat' first | ((first | refine Br.dec ?_ ?_ | refine Br.eqi ?_ ?_) <;> intro h <;> try (exfalso; omega)) | (simp (disch := first | omega | (simp only [vlen]; first | done | omega)) only [hr, vch, ↓vAq, vBq, ↓reduceIte, Nat.reduceBEq, Nat.reduceEqDiff, Nat.reduceLT, Nat.reduceLeDiff, Nat.reduceAdd, Nat.reduceMul, Nat.reduceSub, reduceCtorEq, Int.reduceToNat]) | (refine Br.mk ?_ ?_ <;> intro h) | (refine BrN.mk (fun h => ?_) ?_) | (refine AltVC.mk ?_ ?_)
                refine CallVC.eq hsg ?_
                repeat' first | ((first | refine Br.dec ?_ ?_ | refine Br.eqi ?_ ?_) <;> intro h <;> try (exfalso; omega)) | (simp (disch := first | omega | (simp only [vlen]; first | done | omega)) only [hr, vch, ↓vAq, vBq, ↓reduceIte, Nat.reduceBEq, Nat.reduceEqDiff, Nat.reduceLT, Nat.reduceLeDiff, Nat.reduceAdd, Nat.reduceMul, Nat.reduceSub, reduceCtorEq, Int.reduceToNat]) | (refine Br.mk ?_ ?_ <;> intro h) | (refine BrN.mk (fun h => ?_) ?_) | (refine AltVC.mk ?_ ?_)
                refine loopK.mk (q + 1, L) (by simp (disch := first | omega | (simp only [vlen]; first | done | omega)) only [vch, ↓vAq, vBq, ↓reduceIte, Nat.reduceBEq, Nat.reduceEqDiff, Nat.reduceLT, Nat.reduceLeDiff, Nat.reduceAdd, Nat.reduceMul, Nat.reduceSub, reduceCtorEq, Int.reduceToNat]) ⟨hC.skip hql fun c h0 e => ?_, by show q + 1 ≤ _; omega, hil⟩ (by show rs.length - (q + 1) < rs.length - q; omega) ?_
                · exfalso
                  rw [hr] at e
                  rw [e] at hs
                  unfold isSg at hs
                  simp at hs
                  omega
                (simp (disch := first | omega | (simp only [vlen]; first | done | omega)) only [Fits_u, Fits_m, Fits_nil, List.length_append, vch, ↓vAq, vBq, ↓reduceIte, Nat.reduceBEq, Nat.reduceEqDiff, Nat.reduceLT, Nat.reduceLeDiff, Nat.reduceAdd, Nat.reduceMul, Nat.reduceSub, reduceCtorEq, Int.reduceToNat] <;> (repeat' first | rfl | apply And.intro))
                all_goals first | rfl | trace_state
              | true =>
                rw [hs] at hsg
                have hs2 := hs
                unfold isSg at hs2
                simp only [Bool.and_eq_true, decide_eq_true_eq] at hs2
                match R, o3, o4, o5, hr, hs2, hsg with
                | [x], o3, o4, o5, hr, hs2, hsg =>
                  have hx := o4 x (by simp)
                  have hkx : k ≤ x := hs2.2
                  have e0 : ([x] : List Int).getD 0 0 = x := rfl
                  by_cases hl : l = L.getD i 0
                  · have hco := con_int L (x - k) (by omega)
                    by_cases hm : x - k ∈ L
                    · rw [decide_eq_true hm] at hco
                      rw [hl] at hsg
                      repeat' first | ((first | refine Br.dec ?_ ?_ | refine Br.eqi ?_ ?_) <;> intro h <;> try (exfalso; omega)) | (simp (disch := first | omega | (simp only [vlen]; first | done | omega)) only [hr, hl, e0, vch, ↓vAq, vBq, ↓reduceIte, Nat.reduceBEq, Nat.reduceEqDiff, Nat.reduceLT, Nat.reduceLeDiff, Nat.reduceAdd, Nat.reduceMul, Nat.reduceSub, reduceCtorEq, Int.reduceToNat]) | (refine Br.mk ?_ ?_ <;> intro h) | (refine BrN.mk (fun h => ?_) ?_) | (refine AltVC.mk ?_ ?_)
                      refine CallVC.eq hsg ?_
                      repeat' first | ((first | refine Br.dec ?_ ?_ | refine Br.eqi ?_ ?_) <;> intro h <;> try (exfalso; omega)) | (simp (disch := first | omega | (simp only [vlen]; first | done | omega)) only [hr, hl, e0, vch, ↓vAq, vBq, ↓reduceIte, Nat.reduceBEq, Nat.reduceEqDiff, Nat.reduceLT, Nat.reduceLeDiff, Nat.reduceAdd, Nat.reduceMul, Nat.reduceSub, reduceCtorEq, Int.reduceToNat]) | (refine Br.mk ?_ ?_ <;> intro h) | (refine BrN.mk (fun h => ?_) ?_) | (refine AltVC.mk ?_ ?_)
                      refine CallVC.eqo hco plain_v ?_
                      repeat' first | ((first | refine Br.dec ?_ ?_ | refine Br.eqi ?_ ?_) <;> intro h <;> try (exfalso; omega)) | (simp (disch := first | omega | (simp only [vlen]; first | done | omega)) only [hr, hl, e0, vch, ↓vAq, vBq, ↓reduceIte, Nat.reduceBEq, Nat.reduceEqDiff, Nat.reduceLT, Nat.reduceLeDiff, Nat.reduceAdd, Nat.reduceMul, Nat.reduceSub, reduceCtorEq, Int.reduceToNat]) | (refine Br.mk ?_ ?_ <;> intro h) | (refine BrN.mk (fun h => ?_) ?_) | (refine AltVC.mk ?_ ?_)
                      refine loopK.fold 5 1 a 0 true ?_
                      repeat' first | ((first | refine Br.dec ?_ ?_ | refine Br.eqi ?_ ?_) <;> intro h <;> try (exfalso; omega)) | (simp (disch := first | omega | (simp only [vlen]; first | done | omega)) only [vch, ↓vAq, vBq, ↓reduceIte, Nat.reduceBEq, Nat.reduceEqDiff, Nat.reduceLT, Nat.reduceLeDiff, Nat.reduceAdd, Nat.reduceMul, Nat.reduceSub, reduceCtorEq, Int.reduceToNat]) | (refine Br.mk ?_ ?_ <;> intro h) | (refine BrN.mk (fun h => ?_) ?_) | (refine AltVC.mk ?_ ?_)
                      refine Chk.mk ⟨Nat.le_refl _, tabD_all fun j hj => by split <;> first | rfl | exact ch0_clo⟩ ?_
                      refine loopK.mk (q + 1, L) (by simp (disch := first | omega | (simp only [vlen]; first | done | omega)) only [vch, ↓vAq, vBq, ↓reduceIte, Nat.reduceBEq, Nat.reduceEqDiff, Nat.reduceLT, Nat.reduceLeDiff, Nat.reduceAdd, Nat.reduceMul, Nat.reduceSub, reduceCtorEq, Int.reduceToNat]) ⟨hC.skip hql fun c h0 e => ?_, by show q + 1 ≤ _; omega, hil⟩ (by show rs.length - (q + 1) < rs.length - q; omega) ?_
                      · rw [hr] at e
                        have e : [x] = [k + c] := congrArg Rule.right e
                        have e : x = k + c := by simpa using e
                        rwa [show c = x - k by omega]
                      (simp (disch := first | omega | (simp only [vlen]; first | done | omega)) only [Fits_u, Fits_m, Fits_nil, List.length_append, vch, ↓vAq, vBq, ↓reduceIte, Nat.reduceBEq, Nat.reduceEqDiff, Nat.reduceLT, Nat.reduceLeDiff, Nat.reduceAdd, Nat.reduceMul, Nat.reduceSub, reduceCtorEq, Int.reduceToNat] <;> (repeat' first | rfl | apply And.intro))
                      all_goals first | rfl | trace_state
                    · rw [decide_eq_false hm] at hco
                      rw [hl] at hsg
                      have hC2 := hC.add hil hql (by rw [hr, hl]) ⟨hkx, hx.2⟩ hm
                      repeat' first | ((first | refine Br.dec ?_ ?_ | refine Br.eqi ?_ ?_) <;> intro h <;> try (exfalso; omega)) | (simp (disch := first | omega | (simp only [vlen]; first | done | omega)) only [hr, hl, e0, vch, ↓vAq, vBq, ↓reduceIte, Nat.reduceBEq, Nat.reduceEqDiff, Nat.reduceLT, Nat.reduceLeDiff, Nat.reduceAdd, Nat.reduceMul, Nat.reduceSub, reduceCtorEq, Int.reduceToNat]) | (refine Br.mk ?_ ?_ <;> intro h) | (refine BrN.mk (fun h => ?_) ?_) | (refine AltVC.mk ?_ ?_)
                      refine CallVC.eq hsg ?_
                      repeat' first | ((first | refine Br.dec ?_ ?_ | refine Br.eqi ?_ ?_) <;> intro h <;> try (exfalso; omega)) | (simp (disch := first | omega | (simp only [vlen]; first | done | omega)) only [hr, hl, e0, vch, ↓vAq, vBq, ↓reduceIte, Nat.reduceBEq, Nat.reduceEqDiff, Nat.reduceLT, Nat.reduceLeDiff, Nat.reduceAdd, Nat.reduceMul, Nat.reduceSub, reduceCtorEq, Int.reduceToNat]) | (refine Br.mk ?_ ?_ <;> intro h) | (refine BrN.mk (fun h => ?_) ?_) | (refine AltVC.mk ?_ ?_)
                      refine CallVC.eqo hco plain_v ?_
                      repeat' first | ((first | refine Br.dec ?_ ?_ | refine Br.eqi ?_ ?_) <;> intro h <;> try (exfalso; omega)) | (simp (disch := first | omega | (simp only [vlen]; first | done | omega)) only [hr, hl, e0, vch, ↓vAq, vBq, ↓reduceIte, Nat.reduceBEq, Nat.reduceEqDiff, Nat.reduceLT, Nat.reduceLeDiff, Nat.reduceAdd, Nat.reduceMul, Nat.reduceSub, reduceCtorEq, Int.reduceToNat]) | (refine Br.mk ?_ ?_ <;> intro h) | (refine BrN.mk (fun h => ?_) ?_) | (refine AltVC.mk ?_ ?_)
                      have hl2 : (L ++ [x - k]).length = L.length + 1 := by simp
                      refine loopK.fold 5 1 a 0 true ?_
                      repeat' first | ((first | refine Br.dec ?_ ?_ | refine Br.eqi ?_ ?_) <;> intro h <;> try (exfalso; omega)) | (simp (disch := first | omega | (simp only [vlen]; first | done | omega)) only [hl2, vch, ↓vAq, vBq, ↓reduceIte, Nat.reduceBEq, Nat.reduceEqDiff, Nat.reduceLT, Nat.reduceLeDiff, Nat.reduceAdd, Nat.reduceMul, Nat.reduceSub, reduceCtorEq, Int.reduceToNat]) | (refine Br.mk ?_ ?_ <;> intro h) | (refine BrN.mk (fun h => ?_) ?_) | (refine AltVC.mk ?_ ?_)
                      refine Chk.mk ⟨by simp [i64s], tabD_all fun j hj => by split <;> first | rfl | exact ch0_clo⟩ ?_
                      refine loopK.mk (q + 1, L ++ [x - k]) (by simp (disch := first | omega | (simp only [vlen]; first | done | omega)) only [vch, ↓vAq, vBq, ↓reduceIte, Nat.reduceBEq, Nat.reduceEqDiff, Nat.reduceLT, Nat.reduceLeDiff, Nat.reduceAdd, Nat.reduceMul, Nat.reduceSub, reduceCtorEq, Int.reduceToNat]) ⟨hC2, by show q + 1 ≤ _; omega, by show i < (L ++ [x - k]).length; omega⟩ (by show rs.length - (q + 1) < rs.length - q; omega) ?_
                      (simp (disch := first | omega | (simp only [vlen]; first | done | omega)) only [Fits_u, Fits_m, Fits_nil, List.length_append, hl2, vch, ↓vAq, vBq, ↓reduceIte, Nat.reduceBEq, Nat.reduceEqDiff, Nat.reduceLT, Nat.reduceLeDiff, Nat.reduceAdd, Nat.reduceMul, Nat.reduceSub, reduceCtorEq, Int.reduceToNat] <;> (repeat' first | rfl | apply And.intro))
                      all_goals first | rfl | trace_state
                  · repeat' first | ((first | refine Br.dec ?_ ?_ | refine Br.eqi ?_ ?_) <;> intro h <;> try (exfalso; omega)) | (simp (disch := first | omega | (simp only [vlen]; first | done | omega)) only [hr, e0, vch, ↓vAq, vBq, ↓reduceIte, Nat.reduceBEq, Nat.reduceEqDiff, Nat.reduceLT, Nat.reduceLeDiff, Nat.reduceAdd, Nat.reduceMul, Nat.reduceSub, reduceCtorEq, Int.reduceToNat]) | (refine Br.mk ?_ ?_ <;> intro h) | (refine BrN.mk (fun h => ?_) ?_) | (refine AltVC.mk ?_ ?_)
                    refine CallVC.eq hsg ?_
                    repeat' first | ((first | refine Br.dec ?_ ?_ | refine Br.eqi ?_ ?_) <;> intro h <;> try (exfalso; omega)) | (simp (disch := first | omega | (simp only [vlen]; first | done | omega)) only [hr, e0, vch, ↓vAq, vBq, ↓reduceIte, Nat.reduceBEq, Nat.reduceEqDiff, Nat.reduceLT, Nat.reduceLeDiff, Nat.reduceAdd, Nat.reduceMul, Nat.reduceSub, reduceCtorEq, Int.reduceToNat]) | (refine Br.mk ?_ ?_ <;> intro h) | (refine BrN.mk (fun h => ?_) ?_) | (refine AltVC.mk ?_ ?_)
                    refine loopK.fold 5 1 a 0 true ?_
                    repeat' first | ((first | refine Br.dec ?_ ?_ | refine Br.eqi ?_ ?_) <;> intro h <;> try (exfalso; omega)) | (simp (disch := first | omega | (simp only [vlen]; first | done | omega)) only [vch, ↓vAq, vBq, ↓reduceIte, Nat.reduceBEq, Nat.reduceEqDiff, Nat.reduceLT, Nat.reduceLeDiff, Nat.reduceAdd, Nat.reduceMul, Nat.reduceSub, reduceCtorEq, Int.reduceToNat]) | (refine Br.mk ?_ ?_ <;> intro h) | (refine BrN.mk (fun h => ?_) ?_) | (refine AltVC.mk ?_ ?_)
                    refine Chk.mk ⟨Nat.le_refl _, tabD_all fun j hj => by split <;> first | rfl | exact ch0_clo⟩ ?_
                    refine loopK.mk (q + 1, L) (by simp (disch := first | omega | (simp only [vlen]; first | done | omega)) only [vch, ↓vAq, vBq, ↓reduceIte, Nat.reduceBEq, Nat.reduceEqDiff, Nat.reduceLT, Nat.reduceLeDiff, Nat.reduceAdd, Nat.reduceMul, Nat.reduceSub, reduceCtorEq, Int.reduceToNat]) ⟨hC.skip hql fun c h0 e => ?_, by show q + 1 ≤ _; omega, hil⟩ (by show rs.length - (q + 1) < rs.length - q; omega) ?_
                    · rw [hr] at e
                      exact absurd (congrArg Rule.left e) hl
                    (simp (disch := first | omega | (simp only [vlen]; first | done | omega)) only [Fits_u, Fits_m, Fits_nil, List.length_append, vch, ↓vAq, vBq, ↓reduceIte, Nat.reduceBEq, Nat.reduceEqDiff, Nat.reduceLT, Nat.reduceLeDiff, Nat.reduceAdd, Nat.reduceMul, Nat.reduceSub, reduceCtorEq, Int.reduceToNat] <;> (repeat' first | rfl | apply And.intro))
                    all_goals first | rfl | trace_state
            · have hqe : q = rs.length := by omega
              subst hqe
              repeat' first | ((first | refine Br.dec ?_ ?_ | refine Br.eqi ?_ ?_) <;> intro h <;> try (exfalso; omega)) | (simp (disch := first | omega | (simp only [vlen]; first | done | omega)) only [vch, ↓vAq, vBq, ↓reduceIte, Nat.reduceBEq, Nat.reduceEqDiff, Nat.reduceLT, Nat.reduceLeDiff, Nat.reduceAdd, Nat.reduceMul, Nat.reduceSub, reduceCtorEq, Int.reduceToNat]) | (refine Br.mk ?_ ?_ <;> intro h) | (refine BrN.mk (fun h => ?_) ?_) | (refine AltVC.mk ?_ ?_)
              refine loopK.mk (i + 1, L) (by simp (disch := first | omega | (simp only [vlen]; first | done | omega)) only [vch, ↓vAq, vBq, ↓reduceIte, Nat.reduceBEq, Nat.reduceEqDiff, Nat.reduceLT, Nat.reduceLeDiff, Nat.reduceAdd, Nat.reduceMul, Nat.reduceSub, reduceCtorEq, Int.reduceToNat]) ⟨hC.next, by show i + 1 ≤ L.length; omega⟩ (by show N - (i + 1) < N - i; omega) ?_
              (simp (disch := first | omega | (simp only [vlen]; first | done | omega)) only [Fits_u, Fits_m, Fits_nil, List.length_append, vch, ↓vAq, vBq, ↓reduceIte, Nat.reduceBEq, Nat.reduceEqDiff, Nat.reduceLT, Nat.reduceLeDiff, Nat.reduceAdd, Nat.reduceMul, Nat.reduceSub, reduceCtorEq, Int.reduceToNat] <;> (repeat' first | rfl | apply And.intro))
              all_goals first | rfl | trace_state
        · have hF := hC.fin (by omega)
          repeat' first | ((first | refine Br.dec ?_ ?_ | refine Br.eqi ?_ ?_) <;> intro h <;> try (exfalso; omega)) | (simp (disch := first | omega | (simp only [vlen]; first | done | omega)) only [vch, ↓vAq, vBq, ↓reduceIte, Nat.reduceBEq, Nat.reduceEqDiff, Nat.reduceLT, Nat.reduceLeDiff, Nat.reduceAdd, Nat.reduceMul, Nat.reduceSub, reduceCtorEq, Int.reduceToNat]) | (refine Br.mk ?_ ?_ <;> intro h) | (refine BrN.mk (fun h => ?_) ?_) | (refine AltVC.mk ?_ ?_)
          refine loopK.fold 3 1 a 0 true ?_
          repeat' first | ((first | refine Br.dec ?_ ?_ | refine Br.eqi ?_ ?_) <;> intro h <;> try (exfalso; omega)) | (simp (disch := first | omega | (simp only [vlen]; first | done | omega)) only [vch, ↓vAq, vBq, ↓reduceIte, Nat.reduceBEq, Nat.reduceEqDiff, Nat.reduceLT, Nat.reduceLeDiff, Nat.reduceAdd, Nat.reduceMul, Nat.reduceSub, reduceCtorEq, Int.reduceToNat]) | (refine Br.mk ?_ ?_ <;> intro h) | (refine BrN.mk (fun h => ?_) ?_) | (refine AltVC.mk ?_ ?_)
          refine Chk.mk ⟨Nat.le_refl _, tabD_all fun j hj => by split <;> first | rfl | exact ch0_clo⟩ ?_
          refine loopK.mk (a + 1, fun j => if j = a then L else O j) (by simp (disch := first | omega | (simp only [vlen]; first | done | omega)) only [vch, ↓vAq, vBq, ↓reduceIte, Nat.reduceBEq, Nat.reduceEqDiff, Nat.reduceLT, Nat.reduceLeDiff, Nat.reduceAdd, Nat.reduceMul, Nat.reduceSub, reduceCtorEq, Int.reduceToNat]) ⟨by show a + 1 ≤ N; omega, fun j hj => ?_⟩ (by show N - (a + 1) < N - a; omega) ?_
          · show (if j = a then L else O j).length ≤ N ∧ ∀ b, b ∈ (if j = a then L else O j) ↔ Chn k rs j b
            by_cases e : j = a
            · subst e; rw [if_pos rfl]; exact ⟨hLN, hF⟩
            · rw [if_neg e]; exact hO j (by omega)
          (simp (disch := first | omega | (simp only [vlen]; first | done | omega)) only [Fits_u, Fits_m, Fits_nil, List.length_append, vch, ↓vAq, vBq, ↓reduceIte, Nat.reduceBEq, Nat.reduceEqDiff, Nat.reduceLT, Nat.reduceLeDiff, Nat.reduceAdd, Nat.reduceMul, Nat.reduceSub, reduceCtorEq, Int.reduceToNat] <;> (repeat' first | rfl | apply And.intro))
          all_goals first | exact obTabC (fun j hj => ch0_step) (decide_eq_true (by omega)).symm | rfl | trace_state
    · have hae : a = N := by omega
      subst hae
      rw [ch0_all, decide_eq_true (show 0 < a by omega)]
      repeat' first | ((first | refine Br.dec ?_ ?_ | refine Br.eqi ?_ ?_) <;> intro h <;> try (exfalso; omega)) | (simp (disch := first | omega | (simp only [vlen]; first | done | omega)) only [vch, ↓vAq, vBq, ↓reduceIte, Nat.reduceBEq, Nat.reduceEqDiff, Nat.reduceLT, Nat.reduceLeDiff, Nat.reduceAdd, Nat.reduceMul, Nat.reduceSub, reduceCtorEq, Int.reduceToNat]) | (refine Br.mk ?_ ?_ <;> intro h) | (refine BrN.mk (fun h => ?_) ?_) | (refine AltVC.mk ?_ ?_)
      exact fin_mk ⟨O, rfl, hO⟩
end Go.Proofs.Ytplkkacfjepgpaa

namespace Go.Proofs.Ytplkkacfjepgpaa
open Go.Dm
set_option linter.unusedSimpArgs false
set_option linter.unnecessarySimpa false
set_option linter.unusedVariables false
set_option linter.defProp false
structure PI (k N : Int) (rs : List Rule) (O : Nat → List Int) (L : List Rule) (a i q : Nat) : Prop where
  sd : ∀ r, r ∈ L → (0 ≤ r.left ∧ r.left < N) ∧ ∃ b, Chn k rs r.left b ∧ (⟨b, r.right⟩ : Rule) ∈ rs ∧ isSg k ⟨b, r.right⟩ = false
  c1 : ∀ c : Nat, c < a → ∀ b R, Chn k rs c b → (⟨b, R⟩ : Rule) ∈ rs → isSg k ⟨b, R⟩ = false → ⟨c, R⟩ ∈ L
  c2 : ∀ j, j < i → ∀ R, (⟨(O a).getD j 0, R⟩ : Rule) ∈ rs → isSg k ⟨(O a).getD j 0, R⟩ = false → ⟨a, R⟩ ∈ L
  c3 : ∀ R, (⟨(O a).getD i 0, R⟩ : Rule) ∈ rs.take q → isSg k ⟨(O a).getD i 0, R⟩ = false → ⟨a, R⟩ ∈ L
  len : L.length ≤ 31000 * a + 1000 * i + q
theorem PI.init {k N : Int} {rs : List Rule} {O : Nat → List Int} : PI k N rs O [] 0 0 0 :=
  ⟨fun r h => (by cases h), fun c h => absurd h (Nat.not_lt_zero _), fun j h => absurd h (Nat.not_lt_zero _), fun R h => (by simp at h), Nat.zero_le _⟩
theorem PI.skip {k N : Int} {rs : List Rule} {O : Nat → List Int} {L : List Rule} {a i q : Nat} (h : PI k N rs O L a i q) (hq : q < rs.length) (hn : ∀ R, rs.getD q default = ⟨(O a).getD i 0, R⟩ → isSg k ⟨(O a).getD i 0, R⟩ = false → ⟨a, R⟩ ∈ L) : PI k N rs O L a i (q + 1) :=
  ⟨h.sd, h.c1, h.c2, fun R hR hs => by
    rw [take_succ_getD hq default, List.mem_append, List.mem_singleton] at hR
    exact hR.elim (fun hR => h.c3 R hR hs) fun e => hn R e.symm hs, by have := h.len; omega⟩
theorem PI.add {k : Int} {N : Nat} {rs : List Rule} {O : Nat → List Int} {L : List Rule} {a i q : Nat} (h : PI k N rs O L a i q) (ha : a < N) (hO : ∀ b, b ∈ O a ↔ Chn k rs a b) (hi : i < (O a).length) (hq : q < rs.length) {R : List Int} (hr : rs.getD q default = ⟨(O a).getD i 0, R⟩) (hs : isSg k ⟨(O a).getD i 0, R⟩ = false) : PI k N rs O (L ++ [⟨a, R⟩]) a i (q + 1) := by
  have hm := getD_mem' (l := rs) (i := q) hq
  rw [hr] at hm
  refine ⟨fun r hr => ?_, fun c hc b R h1 h2 h3 => List.mem_append_left _ (h.c1 c hc b R h1 h2 h3), fun j hj R h1 h2 => List.mem_append_left _ (h.c2 j hj R h1 h2), fun R' hR hs' => ?_, by rw [List.length_append]; have := h.len; simp; omega⟩
  · rcases List.mem_append.1 hr with hr | hr
    · exact h.sd r hr
    · rw [List.mem_singleton.1 hr]
      exact ⟨⟨by show (0 : Int) ≤ (a : Int); omega, by show (a : Int) < N; omega⟩, _, (hO _).1 (getD_mem' hi), hm, hs⟩
  · rw [take_succ_getD hq default, List.mem_append, List.mem_singleton] at hR
    rcases hR with hR | hR
    · exact List.mem_append_left _ (h.c3 R' hR hs')
    · rw [hr] at hR
      have e : R' = R := congrArg Rule.right hR
      rw [e]
      exact List.mem_append_right _ (List.mem_singleton.2 rfl)
theorem PI.next {k N : Int} {rs : List Rule} {O : Nat → List Int} {L : List Rule} {a i : Nat} (h : PI k N rs O L a i rs.length) (hl : rs.length ≤ 1000) : PI k N rs O L a (i + 1) 0 :=
  ⟨h.sd, h.c1, fun j hj R h1 h2 => by
    by_cases e : j = i
    · subst e; exact h.c3 R (by rwa [List.take_length]) h2
    · exact h.c2 j (by omega) R h1 h2, fun R hR => (by simp at hR), by have := h.len; omega⟩
theorem PI.row {k N : Int} {rs : List Rule} {O : Nat → List Int} {L : List Rule} {a i : Nat} (h : PI k N rs O L a i 0) (hi : i = (O a).length) (hl : i ≤ 31) (hO : ∀ b, b ∈ O a ↔ Chn k rs a b) : PI k N rs O L (a + 1) 0 0 :=
  ⟨h.sd, fun c hc b R h1 h2 h3 => by
    by_cases e : c = a
    · subst e
      obtain ⟨j, hj, e⟩ := List.getElem_of_mem ((hO b).2 h1)
      have e2 : (O c).getD j 0 = b := by simp [List.getD, hj, e]
      exact h.c2 j (by omega) R (by rw [e2]; exact h2) (by rw [e2]; exact h3)
    · exact h.c1 c (by omega) b R h1 h2 h3, fun j hj => absurd hj (Nat.not_lt_zero _), fun R hR => (by simp at hR), by have := h.len; omega⟩
theorem PI.fin {F : Grammar} {N : Nat} {O : Nat → List Int} {L : List Rule} (hk : 0 ≤ F.k) (hl : ∀ r, r ∈ F.rules → 0 ≤ r.left ∧ r.left < N) (h : PI F.k N F.rules O L N 0 0) : ChG F ⟨F.k, N, 0, L⟩ :=
  ⟨rfl, hk, hl, fun a R h0 h1 => ⟨fun hm => (h.sd _ hm).2, fun ⟨b, h2, h3, h4⟩ => by
    have h1 : a < N := h1
    have := h.c1 a.toNat (by omega) b R (by rwa [show ((a.toNat : Nat) : Int) = a by omega]) h3 h4
    rwa [show ((a.toNat : Nat) : Int) = a by omega] at this⟩, fun r hr => (h.sd r hr).1⟩
set_option maxRecDepth 10000 in
set_option maxHeartbeats 4000000 in
theorem equalP_spec (a b : List Int) (ha : a.length ≤ 1000000) (hb : b.length ≤ 1000000) : Dm.Spec Try.prog 77 [.sl 1 (i64s a), .sl 1 (i64s b)] (· = .v (.bool (decide (a = b)))) := by
  refine spec_of_vc mixed Try.func77 c77 (by rw [show Try.f77.ntmps = _ from Try.ntmps77]; simp) ?_
  unfold m77 r77
  repeat' first | ((first | refine Br.dec ?_ ?_ | refine Br.eqi ?_ ?_) <;> intro h <;> try (exfalso; omega)) | (simp (disch := first | omega | (simp only [vlen]; first | done | omega)) only [vfu, ↓vAq, vBq, ↓reduceIte, Nat.reduceBEq, Nat.reduceEqDiff, Nat.reduceLT, Nat.reduceLeDiff, Nat.reduceAdd, Nat.reduceMul, Nat.reduceSub, reduceCtorEq, Int.reduceToNat]) | (refine Br.mk ?_ ?_ <;> intro h) | (refine BrN.mk (fun h => ?_) ?_) | (refine AltVC.mk ?_ ?_)
  · refine LoopVC.mk (X := Nat) (fun i => [(13, iv .i64 i)]) (fun _ => []) (fun i => a.length - i) (fun i => i ≤ a.length ∧ ∀ j, j < i → a.getD j 0 = b.getD j 0) 0 ⟨by omega, by omega⟩ ?_ ?_
    · (simp (disch := first | omega | (simp only [vlen]; first | done | omega)) only [Fits_u, Fits_m, Fits_nil, List.length_append, vfu, ↓vAq, vBq, ↓reduceIte, Nat.reduceBEq, Nat.reduceEqDiff, Nat.reduceLT, Nat.reduceLeDiff, Nat.reduceAdd, Nat.reduceMul, Nat.reduceSub, reduceCtorEq, Int.reduceToNat] <;> (repeat' first | rfl | apply And.intro))
    · rintro i ⟨h1, h2⟩
      repeat' first | ((first | refine Br.dec ?_ ?_ | refine Br.eqi ?_ ?_) <;> intro h <;> try (exfalso; omega)) | (simp (disch := first | omega | (simp only [vlen]; first | done | omega)) only [vfu, ↓vAq, vBq, ↓reduceIte, Nat.reduceBEq, Nat.reduceEqDiff, Nat.reduceLT, Nat.reduceLeDiff, Nat.reduceAdd, Nat.reduceMul, Nat.reduceSub, reduceCtorEq, Int.reduceToNat]) | (refine Br.mk ?_ ?_ <;> intro h) | (refine BrN.mk (fun h => ?_) ?_) | (refine AltVC.mk ?_ ?_)
      · have e : a.getD i 0 = b.getD i 0 := by omega
        refine loopK.mk (i + 1) (by simp (disch := first | omega | (simp only [vlen]; first | done | omega)) only [vfu, ↓vAq, vBq, ↓reduceIte, Nat.reduceBEq, Nat.reduceEqDiff, Nat.reduceLT, Nat.reduceLeDiff, Nat.reduceAdd, Nat.reduceMul, Nat.reduceSub, reduceCtorEq, Int.reduceToNat]) ⟨by omega, fun j hj => ?_⟩ (by omega) (by (simp (disch := first | omega | (simp only [vlen]; first | done | omega)) only [Fits_u, Fits_m, Fits_nil, List.length_append, vfu, ↓vAq, vBq, ↓reduceIte, Nat.reduceBEq, Nat.reduceEqDiff, Nat.reduceLT, Nat.reduceLeDiff, Nat.reduceAdd, Nat.reduceMul, Nat.reduceSub, reduceCtorEq, Int.reduceToNat] <;> (repeat' first | rfl | apply And.intro)))
        by_cases e2 : j = i
        · subst e2; exact e
        · exact h2 j (by omega)
      · exact fin_mk (vbEq (decide_eq_false (fun e => by subst e; omega)).symm)
      · refine fin_mk (vbEq (decide_eq_true ?_).symm)
        apply List.ext_getElem (by omega)
        intro j h3 h4
        have := h2 j (by omega)
        simpa [List.getD, h3, h4] using this
  · exact fin_mk (vbEq (by rw [decide_eq_false (fun e => by subst e; omega)]))
set_option maxRecDepth 10000 in
set_option maxHeartbeats 4000000 in
theorem cloneP_int (l : List Int) (h : l.length ≤ 1000000) : Dm.Spec Try.prog 54 [.sl 1 (i64s l)] (· = .sl 1 (i64s l)) := by
  refine spec_of_vc mixed Try.func54 c54 (by rw [show Try.f54.ntmps = _ from Try.ntmps54]; simp) ?_
  unfold m54 r54
  repeat' first | ((first | refine Br.dec ?_ ?_ | refine Br.eqi ?_ ?_) <;> intro h <;> try (exfalso; omega)) | (simp (disch := first | omega | (simp only [vlen]; first | done | omega)) only [vfu, ↓vAq, vBq, ↓reduceIte, Nat.reduceBEq, Nat.reduceEqDiff, Nat.reduceLT, Nat.reduceLeDiff, Nat.reduceAdd, Nat.reduceMul, Nat.reduceSub, reduceCtorEq, Int.reduceToNat]) | (refine Br.mk ?_ ?_ <;> intro h) | (refine BrN.mk (fun h => ?_) ?_) | (refine AltVC.mk ?_ ?_)
  · have : l = [] := List.eq_nil_of_length_eq_zero (by assumption)
    subst this
    exact fin_mk rfl
  · exact fin_mk rfl
def sameB (x y : Rule) : Bool := decide (x.left = y.left) && decide (x.right = y.right)
theorem sameB_iff {x y : Rule} : sameB x y = true ↔ x = y := by
  obtain ⟨a, b⟩ := x
  obtain ⟨c, d⟩ := y
  simp [sameB]
set_option maxRecDepth 10000 in
set_option maxHeartbeats 4000000 in
theorem same_spec (x y : Rule) (hx : x.right.length ≤ 1000) (hy : y.right.length ≤ 1000) : Dm.Spec Try.prog 57 [.ag (rulD x), .ag (rulD y)] (· = .v (.bool (sameB x y))) := by
  refine spec_of_vc mixed Try.func57 c57 (by rw [show Try.f57.ntmps = _ from Try.ntmps57]; simp) ?_
  unfold m57 r57
  have he := equalP_spec x.right y.right (by omega) (by omega)
  unfold sameB
  by_cases h : x.left = y.left
  · repeat' first | ((first | refine Br.dec ?_ ?_ | refine Br.eqi ?_ ?_) <;> intro h <;> try (exfalso; omega)) | (simp (disch := first | omega | (simp only [vlen]; first | done | omega)) only [rulD_eq, h, vfu, ↓vAq, vBq, ↓reduceIte, Nat.reduceBEq, Nat.reduceEqDiff, Nat.reduceLT, Nat.reduceLeDiff, Nat.reduceAdd, Nat.reduceMul, Nat.reduceSub, reduceCtorEq, Int.reduceToNat]) | (refine Br.mk ?_ ?_ <;> intro h) | (refine BrN.mk (fun h => ?_) ?_) | (refine AltVC.mk ?_ ?_)
    refine CallVC.eq he ?_
    repeat' first | ((first | refine Br.dec ?_ ?_ | refine Br.eqi ?_ ?_) <;> intro h <;> try (exfalso; omega)) | (simp (disch := first | omega | (simp only [vlen]; first | done | omega)) only [vfu, ↓vAq, vBq, ↓reduceIte, Nat.reduceBEq, Nat.reduceEqDiff, Nat.reduceLT, Nat.reduceLeDiff, Nat.reduceAdd, Nat.reduceMul, Nat.reduceSub, reduceCtorEq, Int.reduceToNat]) | (refine Br.mk ?_ ?_ <;> intro h) | (refine BrN.mk (fun h => ?_) ?_) | (refine AltVC.mk ?_ ?_)
    exact fin_mk (vbEq (by simp [h]))
  · repeat' first | ((first | refine Br.dec ?_ ?_ | refine Br.eqi ?_ ?_) <;> intro h <;> try (exfalso; omega)) | (simp (disch := first | omega | (simp only [vlen]; first | done | omega)) only [rulD_eq, vfu, ↓vAq, vBq, ↓reduceIte, Nat.reduceBEq, Nat.reduceEqDiff, Nat.reduceLT, Nat.reduceLeDiff, Nat.reduceAdd, Nat.reduceMul, Nat.reduceSub, reduceCtorEq, Int.reduceToNat]) | (refine Br.mk ?_ ?_ <;> intro h) | (refine BrN.mk (fun h => ?_) ?_) | (refine AltVC.mk ?_ ?_)
    exact fin_mk (vbEq (by simp [h]))
set_option maxRecDepth 10000 in
set_option maxHeartbeats 4000000 in
theorem sameC_spec (x y : Rule) (hx : x.right.length ≤ 1000) (hy : y.right.length ≤ 1000) : Dm.Spec Try.prog 56 [.ag (rulD x), .ip (rulD y) 0] (· = .v (.bool (sameB x y))) := by
  refine spec_of_vc mixed Try.func56 c56 (by rw [show Try.f56.ntmps = _ from Try.ntmps56]; simp) ?_
  unfold m56 r56
  repeat' first | ((first | refine Br.dec ?_ ?_ | refine Br.eqi ?_ ?_) <;> intro h <;> try (exfalso; omega)) | (simp (disch := first | omega | (simp only [vlen]; first | done | omega)) only [rulD_eq, vfu, ↓vAq, vBq, ↓reduceIte, Nat.reduceBEq, Nat.reduceEqDiff, Nat.reduceLT, Nat.reduceLeDiff, Nat.reduceAdd, Nat.reduceMul, Nat.reduceSub, reduceCtorEq, Int.reduceToNat]) | (refine Br.mk ?_ ?_ <;> intro h) | (refine BrN.mk (fun h => ?_) ?_) | (refine AltVC.mk ?_ ?_)
  refine CallVC.eq (same_spec x y hx hy) ?_
  repeat' first | ((first | refine Br.dec ?_ ?_ | refine Br.eqi ?_ ?_) <;> intro h <;> try (exfalso; omega)) | (simp (disch := first | omega | (simp only [vlen]; first | done | omega)) only [vfu, ↓vAq, vBq, ↓reduceIte, Nat.reduceBEq, Nat.reduceEqDiff, Nat.reduceLT, Nat.reduceLeDiff, Nat.reduceAdd, Nat.reduceMul, Nat.reduceSub, reduceCtorEq, Int.reduceToNat]) | (refine Br.mk ?_ ?_ <;> intro h) | (refine BrN.mk (fun h => ?_) ?_) | (refine AltVC.mk ?_ ?_)
  exact fin_mk rfl
end Go.Proofs.Ytplkkacfjepgpaa
