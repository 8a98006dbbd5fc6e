/-
  many.link: the walk.
-/
import Derived.Test.YtdcdldfleeilnaaMg13
namespace Go.Proofs.Ytdcdldfleeilnaa
open Go.Dm
set_option linter.unusedSimpArgs false
set_option linter.unnecessarySimpa false
set_option linter.unusedVariables false
set_option linter.defProp false
theorem sort_spec (l : List Int) (hl : l.length ≤ 100000000) : Dm.SpecH Try.prog 41 [.ref 0 1 0 l.length] [⟨1, i64s l, true, false, .fix⟩] (fun d o => d = .tu [] ∧ o = [some ⟨1, i64s (srtI l), true, false, .fix⟩]) :=
  sortI_spec (P := Try.prog) (ρ := sortN_ren) sortN ⟨_, Try.func41, by kernel_rfl, by kernel_rfl⟩ .fix rfl l hl
theorem nodup_lenA : ∀ (n : Nat) (l : List Nat), l.Nodup → (∀ x, x ∈ l → x < n) → l.length ≤ n
  | 0, l, _, h => by
    cases l with
    | nil => simp
    | cons x l => have := h x (by simp); omega
  | n + 1, l, hd, h => by
    by_cases e : n ∈ l
    · have := nodup_lenA n (l.erase n) (hd.erase n) fun x hx => by
        have h1 := (hd.mem_erase_iff).1 hx
        have := h x h1.2
        have := h1.1
        omega
      rw [List.length_erase_of_mem e] at this
      omega
    · have := nodup_lenA n l hd fun x hx => by
        have h1 := h x hx
        have : x ≠ n := fun h => e (h ▸ hx)
        omega
      omega
theorem sort0_spec : Dm.Spec Try.prog 41 [.sl 1 []] (· = .tu []) :=
  sort0I (P := Try.prog) (ρ := sortN_ren) sortN ⟨_, Try.func41, by kernel_rfl, by kernel_rfl⟩
def qD (x : Nat) : List D := [iv .i64 x]
theorem qD_eq {x : Nat} : qD x = [iv .i64 x] := (rfl)
theorem q_app {R : List Nat} {x : Nat} : tbl qD R ++ [[D.v (.int .i64 x)]] = tbl qD (R ++ [x]) := by rw [tbl_app]; rfl
theorem q_flat {τ n z : Nat} {es ys : List (List D)} : appO τ n ⟨z, es, true, false, .arr⟩ ys true = ⟨z, es.take n ++ ys, true, false, .arr⟩ := (rfl)
theorem q_drop {R : List Nat} {n : Nat} : (tbl qD R).drop n = tbl qD (R.drop n) := by simp [tbl, List.map_drop]
theorem nd_gs {T : List Nd} {i : Nat} {x : Nd} (h : i < T.length) : (T.set i x).getD i default = x := by rw [getD_set2 h, if_pos rfl]
theorem nd_gn {T : List Nd} {i j : Nat} {x : Nd} (h : j ≠ i) : (T.set i x).getD j default = T.getD j default := by
  simp only [List.getD_eq_getElem?_getD, List.getElem?_set]
  rw [if_neg (fun e => h e.symm)]
theorem gs_ne {l : List (List D)} {i j : Nat} {x d : List D} (h : j ≠ i) : (l.set i x).getD j d = l.getD j d := by
  simp only [List.getD_eq_getElem?_getD, List.getElem?_set]
  rw [if_neg (fun e => h e.symm)]
theorem refEq2 {τ sz off n n' : Nat} (h : n = n') : D.ref τ sz off n = D.ref τ sz off n' := by rw [h]
theorem srcN {l : List Nat} : srcO (some ⟨1, i64s (natI l), true, false, .arr⟩) 1 0 l.length = (.sl 1 (i64s (natI l)), true) := srcO_all (by simp [i64s, natI])
theorem natI_take {l : List Nat} : (natI l).take l.length = natI l := List.take_of_length_le (by simp [natI])
theorem natI_app2 {a b : List Nat} : natI a ++ natI b = natI (a ++ b) := natI_app.symm
theorem kill_sets {l : List (List D)} {i τ : Nat} {x : List D} : List.map (fun e => List.map (D.kill τ) e) (l.set i x) = (List.map (fun e => List.map (D.kill τ) e) l).set i (x.map (D.kill τ)) := List.map_set
theorem kill_tbl {T : List Nd} {τ : Nat} : List.map (fun e => List.map (D.kill τ) e) (tbl ndD T) = tbl ndD T := by
  have e : ((fun e => List.map (D.kill τ) e) ∘ ndD) = ndD := by funext x; exact nd_kill x
  simp [tbl, e]
theorem lent_sets {l : List (List D)} {i : Nat} {s : Go.Dm.S} {ι : List Nat} {x : List D} : List.map (fun e => List.map (D.lent s ι) e) (l.set i x) = (List.map (fun e => List.map (D.lent s ι) e) l).set i (x.map (D.lent s ι)) := List.map_set
theorem lent_tbl {T : List Nd} {s : Go.Dm.S} {ι : List Nat} : List.map (fun e => List.map (D.lent s ι) e) (tbl ndD T) = tbl ndD T := by
  have e : ((fun e => List.map (D.lent s ι) e) ∘ ndD) = ndD := by funext x; simp [ndD, lent_om, lent_oo, lent_v]
  simp [tbl, e]
theorem natI_nil : natI [] = [] := rfl
theorem nd_same2 {T : List Nd} {b f : Nat} {X : Nd} (h : f ≠ b) (hf : f < T.length) : (T.set b X).set f ⟨(T.getD f default).nx, (T.getD f default).fl, (T.getD f default).lo, (T.getD f default).ws⟩ = T.set b X := by
  have e := nd_same (T := T.set b X) (i := f) (by simpa using hf)
  rwa [nd_gn h] at e
theorem gs_ss {l : List (List D)} {i : Nat} {x y : List D} : (l.set i x).set i y = l.set i y := by simp
theorem gs_3 {l : List (List D)} {i j : Nat} {x y z : List D} (h : j ≠ i) : ((l.set i x).set j y).set i z = (l.set i z).set j y := by
  rw [List.set_comm _ _ h, List.set_set]
theorem nd_ss {T : List Nd} {i : Nat} {x y : Nd} : (T.set i x).set i y = T.set i y := by simp
def vaw := And.intro vac <| And.intro @gs_ss <| And.intro @gs_3 <| And.intro @natI_nil <| And.intro @nd_same2 <| And.intro @lent_sets <| And.intro @lent_tbl <| And.intro @kill_sets <| And.intro @kill_tbl <| And.intro @natI_take <| And.intro @natI_app2 <| And.intro @srcN <| And.intro @gs_ne <| And.intro @nd_gs <| And.intro @nd_gn <| And.intro @nd_ss <| And.intro @qD_eq <| And.intro @q_app <| And.intro @q_flat @q_drop
def LnR (W Ss : List (List UInt8)) (T : List Nd) (d : D) (o : List (Option Ob)) : Prop := d = .tu [] ∧ ∃ T', o = (ntO T').map some ∧ T'.length = T.length ∧ AC W Ss T'
set_option maxRecDepth 10000 in
set_option maxHeartbeats 4000000 in
theorem link_spec (W Ss : List (List UInt8)) (T : List Nd) (hK : LK W Ss T [0]) (hlen : T.length ≤ 100000) (hW : W.length ≤ 1000) (hWl : ∀ w, w ∈ W → w.length ≤ 1000) : Dm.SpecH Try.prog 36 [.ref 0 4 0 T.length] (ntO T) (LnR W Ss T) := by
  refine specH_of_vc mixed Try.func36 c36 (by rw [show Try.f36.ntmps = _ from Try.ntmps36]; simp) ?_
  unfold m36 r36
  unfold ntO
  obtain ⟨n, hn⟩ : ∃ n, T.length = n := ⟨_, rfl⟩
  have hSn : Ss.length = n := by rw [← hK.tri.len]; exact hn
  have hSt : ∀ v, v ∈ Ss → v.length ≤ 100000 := fun v hv => by
    rcases (hK.bg v).1 hv with e | ⟨w, hw, hp⟩
    · rw [e]; exact Nat.zero_le _
    · have := hWl w hw
      have := hp.length_le
      omega
  rw [hn] at hlen ⊢
  repeat' first | ((first | refine Br.dec ?_ ?_ | refine Br.eqi ?_ ?_) <;> intro h <;> try (exfalso; omega)) | (simp (disch := first | omega | (simp only [vlen]; first | done | omega)) only [hn, vaw, ↓vAq, vBq, ↓reduceIte, Nat.reduceBEq, Nat.reduceEqDiff, Nat.reduceLT, Nat.reduceLeDiff, Nat.reduceAdd, Nat.reduceMul, Nat.reduceSub, reduceCtorEq, Int.reduceToNat]) | (refine Br.mk ?_ ?_ <;> intro h) | (refine BrN.mk (fun h => ?_) ?_) | (refine AltVC.mk ?_ ?_)
  refine LoopVC.mk (X := List Nd × List Nat × Nat × List Nat × Nat) (fun x => [(0, .ref 0 4 0 n), (2, .ref 1 1 x.2.2.2.2 (x.2.1.length - x.2.2.1))]) (fun x => [(0, ⟨4, tbl ndD x.1, true, true, .fix⟩), (1, ⟨1, tbl qD x.2.2.2.1, true, false, .arr⟩)]) (fun x => n - x.2.2.1) (fun x => LK W Ss x.1 x.2.1 ∧ x.1.length = n ∧ QI Ss x.2.1 x.2.2.1 0 ∧ x.2.2.1 ≤ x.2.1.length ∧ x.2.2.2.1.drop x.2.2.2.2 = x.2.1.drop x.2.2.1 ∧ x.2.2.2.2 ≤ x.2.2.2.1.length) (T, [0], 0, [0], 0) ⟨hK, hn, .init hK.tri.pos, Nat.zero_le _, rfl, Nat.zero_le _⟩ ?_ ?_
  · (simp (disch := first | omega | (simp only [vlen]; first | done | omega)) only [Fits_u, Fits_m, Fits_nil, List.length_append, vaw, ↓vAq, vBq, ↓reduceIte, Nat.reduceBEq, Nat.reduceEqDiff, Nat.reduceLT, Nat.reduceLeDiff, Nat.reduceAdd, Nat.reduceMul, Nat.reduceSub, reduceCtorEq, Int.reduceToNat] <;> (repeat' first | rfl | apply And.intro))
    all_goals first | rfl | trace_state
  · rintro ⟨T, Q, i, R, off⟩ ⟨hK, hn, hQ, hi, hR, ho⟩
    simp only at hK hn hQ hi hR ho ⊢
    have hRl : R.length - off = Q.length - i := by rw [← List.length_drop, hR, List.length_drop]
    have hQl : Q.length ≤ n := by
      have : ∀ a, a ∈ Q → a < n := fun a ha => by have := hQ.rg a ha; omega
      exact nodup_lenA n Q hQ.nd this
    by_cases hiq : i < Q.length
    · obtain ⟨nd, hhe⟩ : ∃ nd, Q.getD i 0 = nd := ⟨_, rfl⟩
      have hhQ : nd ∈ Q := by rw [← hhe]; exact q_mem hiq
      have hhl : nd < n := by have := hQ.rg nd hhQ; omega
      have hq0 : (tbl qD R).getD off [] = [iv .i64 nd] := by
        rw [tbl_get (by omega), qD_eq]
        have e1 : R.getD off 0 = (R.drop off).getD 0 0 := by simp [List.getD]
        have e2 : Q.getD i 0 = (Q.drop i).getD 0 0 := by simp [List.getD]
        show [iv .i64 (R.getD off 0 : Nat)] = _
        rw [e1, hR, ← e2, hhe]
      have hR1 : R.drop (off + 1) = Q.drop (i + 1) := by
        have := congrArg (List.drop 1) hR
        rwa [List.drop_drop, List.drop_drop] at this
      repeat' first | ((first | refine Br.dec ?_ ?_ | refine Br.eqi ?_ ?_) <;> intro h <;> try (exfalso; omega)) | (simp (disch := first | omega | (simp only [vlen]; first | done | omega)) only [hn, hq0, vaw, ↓vAq, vBq, ↓reduceIte, Nat.reduceBEq, Nat.reduceEqDiff, Nat.reduceLT, Nat.reduceLeDiff, Nat.reduceAdd, Nat.reduceMul, Nat.reduceSub, reduceCtorEq, Int.reduceToNat]) | (refine Br.mk ?_ ?_ <;> intro h) | (refine BrN.mk (fun h => ?_) ?_) | (refine AltVC.mk ?_ ?_)
      refine LoopVC.mk (X := Nat × List Nd × List Nat × List Nat × Nat) (fun x => [(0, .ref 0 4 0 n), (2, .ref 1 1 x.2.2.2.2 (x.2.2.1.length - (i + 1))), (16, iv .i64 x.1)]) (fun x => [(0, ⟨4, tbl ndD x.2.1, true, true, .fix⟩), (1, ⟨1, tbl qD x.2.2.2.1, true, false, .arr⟩)]) (fun x => 256 - x.1) (fun x => x.1 ≤ 256 ∧ LK W Ss x.2.1 x.2.2.1 ∧ x.2.1.length = n ∧ QI Ss x.2.2.1 i x.1 ∧ i < x.2.2.1.length ∧ x.2.2.1.getD i 0 = nd ∧ x.2.2.2.1.drop x.2.2.2.2 = x.2.2.1.drop (i + 1) ∧ x.2.2.2.2 ≤ x.2.2.2.1.length) (0, T, Q, R, off + 1) ⟨Nat.zero_le _, hK, hn, hQ, hiq, hhe, hR1, by show off + 1 ≤ R.length; omega⟩ ?_ ?_
      · (simp (disch := first | omega | (simp only [vlen]; first | done | omega)) only [Fits_u, Fits_m, Fits_nil, List.length_append, hn, vaw, ↓vAq, vBq, ↓reduceIte, Nat.reduceBEq, Nat.reduceEqDiff, Nat.reduceLT, Nat.reduceLeDiff, Nat.reduceAdd, Nat.reduceMul, Nat.reduceSub, reduceCtorEq, Int.reduceToNat] <;> (repeat' first | rfl | apply And.intro))
        all_goals first | rfl | trace_state
      · rintro ⟨c, T, Q, R, off⟩ ⟨hc, hK, hn, hQ, hiq, hhe, hR, ho⟩
        simp only at hc hK hn hQ hiq hhe hR ho ⊢
        have hQl : Q.length ≤ n := nodup_lenA n Q hQ.nd fun a ha => by have := hQ.rg a ha; omega
        have hRl : R.length - off = Q.length - (i + 1) := by rw [← List.length_drop, hR, List.length_drop]
        by_cases hcl : c < 256
        · obtain ⟨d, rfl⟩ : ∃ d : UInt8, d.toNat = c := ⟨UInt8.ofNat c, by simp; omega⟩
          have hnx := hK.tri.nx nd (by omega) d
          have hz := hK.tri.zero
          have hnod := hK.tri.nod
          have hSl := hK.tri.len
          repeat' first | ((first | refine Br.dec ?_ ?_ | refine Br.eqi ?_ ?_) <;> intro h <;> try (exfalso; omega)) | (simp (disch := first | omega | (simp only [vlen]; first | done | omega)) only [hn, vaw, ↓vAq, vBq, ↓reduceIte, Nat.reduceBEq, Nat.reduceEqDiff, Nat.reduceLT, Nat.reduceLeDiff, Nat.reduceAdd, Nat.reduceMul, Nat.reduceSub, reduceCtorEq, Int.reduceToNat]) | (refine Br.mk ?_ ?_ <;> intro h) | (refine BrN.mk (fun h => ?_) ?_) | (refine AltVC.mk ?_ ?_)
          refine BrK.mk (fun r hr he => ?_) (fun hno => ?_)
          · obtain ⟨b, hb, hRr⟩ := ac_in hr he
            obtain ⟨b1, b2⟩ := (hnx b).1 hb
            have hbS : Ss.getD b [] = Ss.getD (Q.getD i 0) [] ++ [d] := by rw [hhe]; exact b2
            have hbQ := hQ.new hnod hz hiq (by omega) rfl hbS
            have hQ2 := hQ.push hnod hz hiq (by omega) rfl hbS
            repeat' first | ((first | refine Br.dec ?_ ?_ | refine Br.eqi ?_ ?_) <;> intro h <;> try (exfalso; omega)) | (simp (disch := first | omega | (simp only [vlen]; first | done | omega)) only [hn, hRr, vaw, ↓vAq, vBq, ↓reduceIte, Nat.reduceBEq, Nat.reduceEqDiff, Nat.reduceLT, Nat.reduceLeDiff, Nat.reduceAdd, Nat.reduceMul, Nat.reduceSub, reduceCtorEq, Int.reduceToNat]) | (refine Br.mk ?_ ?_ <;> intro h) | (refine BrN.mk (fun h => ?_) ?_) | (refine AltVC.mk ?_ ?_)
            have hll : (Q ++ [b]).length = Q.length + 1 := by simp
            have hTk : (tbl qD R).take (off + (Q.length - (i + 1))) = tbl qD R := List.take_of_length_le (by rw [tbl_len]; omega)
            have hTk2 : (tbl qD (R.drop off)).take (Q.length - (i + 1)) = tbl qD (R.drop off) := List.take_of_length_le (by rw [tbl_len, List.length_drop]; omega)
            have hdr : (R ++ [b]).drop off = (Q ++ [b]).drop (i + 1) := by
              rw [List.drop_append_of_le_length ho, List.drop_append_of_le_length (by omega), hR]
            refine kAppO.two ⟨rfl, rfl, rfl, by rw [tbl_len]; omega, rfl, rfl, by simp only [List.length_cons, List.length_nil]; omega⟩ ?_ ?_
            · repeat' first | ((first | refine Br.dec ?_ ?_ | refine Br.eqi ?_ ?_) <;> intro h <;> try (exfalso; omega)) | (simp (disch := first | omega | (simp only [vlen]; first | done | omega)) only [hn, hTk, vaw, ↓vAq, vBq, ↓reduceIte, Nat.reduceBEq, Nat.reduceEqDiff, Nat.reduceLT, Nat.reduceLeDiff, Nat.reduceAdd, Nat.reduceMul, Nat.reduceSub, reduceCtorEq, Int.reduceToNat]) | (refine Br.mk ?_ ?_ <;> intro h) | (refine BrN.mk (fun h => ?_) ?_) | (refine AltVC.mk ?_ ?_)
              · refine CallVC.fold 2 0 nd 0 true ?_
                repeat' first | ((first | refine Br.dec ?_ ?_ | refine Br.eqi ?_ ?_) <;> intro h <;> try (exfalso; omega)) | (simp (disch := first | omega | (simp only [vlen]; first | done | omega)) only [hn, vaw, ↓vAq, vBq, ↓reduceIte, Nat.reduceBEq, Nat.reduceEqDiff, Nat.reduceLT, Nat.reduceLeDiff, Nat.reduceAdd, Nat.reduceMul, Nat.reduceSub, reduceCtorEq, Int.reduceToNat]) | (refine Br.mk ?_ ?_ <;> intro h) | (refine BrN.mk (fun h => ?_) ?_) | (refine AltVC.mk ?_ ?_)
                have h0 : nd ≠ 0 := by omega
                obtain ⟨f1, f2⟩ := hK.fl nd (by rw [← hhe]; exact q_mem hiq) h0
                obtain ⟨x0, u0, hxu⟩ : ∃ x u, Ss.getD nd [] = x :: u := by
                  match hh : Ss.getD nd [], hK.tri.ne (by omega) h0 with
                  | x :: u, _ => exact ⟨x, u, rfl⟩
                have hlt : (Ss.getD (T.getD nd default).fl []).length ≤ (Ss.getD nd []).length := by
                  have := f2.1.length_le
                  rw [hxu] at this ⊢
                  simp only [List.tail_cons] at this
                  simp only [List.length_cons]; omega
                have hst := step_spec Ss T hK.tri (by omega) (Ss.getD nd []).length (hSt _ (str_mem (by omega))) (fun a ha ha0 hal => hK.fl a (hQ.below hnod hz hK.tri.pc hiq (by omega) (by rw [hhe]; exact hal)) ha0) (T.getD nd default).fl f1 hlt d
                rw [hn] at hst
                refine CallVC.lendE [0] [.ref 0 4 0 n, iv .i64 (T.getD nd default).fl, .v (.int .u8 (d.toNat : Int))] (ntO T) hst (by simp) (by rfl) (by unfold ntO; (simp (disch := first | omega | (simp only [vlen]; first | done | omega)) only [vle0, hn, vaw, ↓vAq, vBq, ↓reduceIte, Nat.reduceBEq, Nat.reduceEqDiff, Nat.reduceLT, Nat.reduceLeDiff, Nat.reduceAdd, Nat.reduceMul, Nat.reduceSub, reduceCtorEq, Int.reduceToNat] <;> (repeat' first | rfl | apply And.intro))) ?_
                rintro _ _ ⟨rfl, f, rfl, g1, g2⟩
                unfold ntO
                have hLS : LS Ss (Ss.getD b []).tail (Ss.getD f []) := by
                  rw [b2, hxu]
                  have := (f2.snoc hK.tri.pc (c := d) (v := Ss.getD f [])).2 g2
                  rw [hxu] at this
                  exact this
                have hfQ : f ∈ Q := hQ.below hnod hz hK.tri.pc hiq (by omega) (by
                  have := hLS.1.length_le
                  rw [b2, hxu] at this
                  rw [hhe, hxu]
                  simp only [List.cons_append, List.tail_cons, List.length_append, List.length_singleton] at this
                  rw [List.length_cons]; omega)
                have hfb : f ≠ b := fun e => hbQ (e ▸ hfQ)
                have hwd := hK.words (b := b) (f := f) (by omega) hbQ (by rw [b2]; simp) hfQ hLS
                have hwsb : (T.getD b default).ws.length ≤ 1000 := by rw [hK.wn b (by omega) hbQ]; exact Nat.le_trans nums_len hW
                have hwsf : (T.getD f default).ws.length ≤ 1000 := by rw [hK.wq f hfQ]; exact Nat.le_trans nums_len hW
                have hpu := hK.push (by have := q_mem hQ.pos; rwa [hQ.z] at this) (b := b) (f := f) (by omega) hbQ g1 hLS
                obtain ⟨ns, hns⟩ : ∃ ns, (nums_ W.length fun j => decide (W.getD j [] <:+ Ss.getD b [])) = ns := ⟨_, rfl⟩
                rw [hns] at hwd hpu
                have hnl : (T.getD b default).ws.length + (T.getD f default).ws.length = ns.length := by
                  have := congrArg List.length hwd
                  rw [srtI_len, natI_len, natI_len, List.length_append] at this
                  exact this
                by_cases he0 : ns.length = 0
                · have hb0 : (T.getD b default).ws = [] := List.eq_nil_of_length_eq_zero (by omega)
                  have hc0 : (T.getD f default).ws = [] := List.eq_nil_of_length_eq_zero (by omega)
                  have hs0 : ns = [] := List.eq_nil_of_length_eq_zero he0
                  have hvw : viewO (some ⟨1, i64s (natI ((T.getD b default).ws ++ (T.getD f default).ws)), true, false, .arr⟩) 1 0 ((T.getD b default).ws.length + (T.getD f default).ws.length) = .sl 1 [] := by rw [hb0, hc0]; exact viewO_all rfl
                  have hcat : (T.getD b default).ws ++ (T.getD f default).ws = ns := by rw [hb0, hc0, hs0]; rfl
                  repeat' first | ((first | refine Br.dec ?_ ?_ | refine Br.eqi ?_ ?_) <;> intro h <;> try (exfalso; omega)) | (simp (disch := first | omega | (simp only [vlen]; first | done | omega)) only [hvw, hn, vaw, ↓vAq, vBq, ↓reduceIte, Nat.reduceBEq, Nat.reduceEqDiff, Nat.reduceLT, Nat.reduceLeDiff, Nat.reduceAdd, Nat.reduceMul, Nat.reduceSub, reduceCtorEq, Int.reduceToNat]) | (refine Br.mk ?_ ?_ <;> intro h) | (refine BrN.mk (fun h => ?_) ?_) | (refine AltVC.mk ?_ ?_)
                  refine CallVC.eqo sort0_spec (by simp (disch := first | omega | (simp only [vlen]; first | done | omega)) only [vaw, ↓vAq, vBq, ↓reduceIte, Nat.reduceBEq, Nat.reduceEqDiff, Nat.reduceLT, Nat.reduceLeDiff, Nat.reduceAdd, Nat.reduceMul, Nat.reduceSub, reduceCtorEq, Int.reduceToNat]) ?_
                  repeat' first | ((first | refine Br.dec ?_ ?_ | refine Br.eqi ?_ ?_) <;> intro h <;> try (exfalso; omega)) | (simp (disch := first | omega | (simp only [vlen]; first | done | omega)) only [hcat, hnl, hn, vaw, ↓vAq, vBq, ↓reduceIte, Nat.reduceBEq, Nat.reduceEqDiff, Nat.reduceLT, Nat.reduceLeDiff, Nat.reduceAdd, Nat.reduceMul, Nat.reduceSub, reduceCtorEq, Int.reduceToNat]) | (refine Br.mk ?_ ?_ <;> intro h) | (refine BrN.mk (fun h => ?_) ?_) | (refine AltVC.mk ?_ ?_)
                  refine loopK.fold 4 0 b 3 false ?_
                  repeat' first | ((first | refine Br.dec ?_ ?_ | refine Br.eqi ?_ ?_) <;> intro h <;> try (exfalso; omega)) | (simp (disch := first | omega | (simp only [vlen]; first | done | omega)) only [hcat, hnl, hn, vaw, ↓vAq, vBq, ↓reduceIte, Nat.reduceBEq, Nat.reduceEqDiff, Nat.reduceLT, Nat.reduceLeDiff, Nat.reduceAdd, Nat.reduceMul, Nat.reduceSub, reduceCtorEq, Int.reduceToNat]) | (refine Br.mk ?_ ?_ <;> intro h) | (refine BrN.mk (fun h => ?_) ?_) | (refine AltVC.mk ?_ ?_)
                  refine loopK.fold 5 0 f 3 true ?_
                  repeat' first | ((first | refine Br.dec ?_ ?_ | refine Br.eqi ?_ ?_) <;> intro h <;> try (exfalso; omega)) | (simp (disch := first | omega | (simp only [vlen]; first | done | omega)) only [hcat, hnl, hn, vaw, ↓vAq, vBq, ↓reduceIte, Nat.reduceBEq, Nat.reduceEqDiff, Nat.reduceLT, Nat.reduceLeDiff, Nat.reduceAdd, Nat.reduceMul, Nat.reduceSub, reduceCtorEq, Int.reduceToNat]) | (refine Br.mk ?_ ?_ <;> intro h) | (refine BrN.mk (fun h => ?_) ?_) | (refine AltVC.mk ?_ ?_)
                  refine loopK.mk (d.toNat + 1, lnk T b f ns, Q ++ [b], R ++ [b], off) (by simp (disch := first | omega | (simp only [vlen]; first | done | omega)) only [hll, vaw, ↓vAq, vBq, ↓reduceIte, Nat.reduceBEq, Nat.reduceEqDiff, Nat.reduceLT, Nat.reduceLeDiff, Nat.reduceAdd, Nat.reduceMul, Nat.reduceSub, reduceCtorEq, Int.reduceToNat]) ⟨by show d.toNat + 1 ≤ 256; omega, hpu, by rw [lnk_len]; exact hn, hQ2, by show i < (Q ++ [b]).length; omega, by rw [getD_app_l hiq]; exact hhe, hdr, by show off ≤ _; rw [List.length_append]; omega⟩ (by show 256 - (d.toNat + 1) < 256 - d.toNat; omega) ?_
                  unfold lnk
                  (simp (disch := first | omega | (simp only [vlen]; first | done | omega)) only [Fits_u, Fits_m, Fits_nil, List.length_append, hcat, hnl, hn, hll, vaw, ↓vAq, vBq, ↓reduceIte, Nat.reduceBEq, Nat.reduceEqDiff, Nat.reduceLT, Nat.reduceLeDiff, Nat.reduceAdd, Nat.reduceMul, Nat.reduceSub, reduceCtorEq, Int.reduceToNat] <;> (repeat' first | rfl | apply And.intro))
                  all_goals first
                    | rfl
                    | exact refEq2 (by omega)
                    | trace_state
                · have hso := sort_spec (natI ((T.getD b default).ws ++ (T.getD f default).ws)) (by rw [natI_len, List.length_append]; omega)
                  rw [hwd, natI_len, List.length_append] at hso
                  have hap : 0 < ((T.getD b default).ws ++ (T.getD f default).ws).length := by rw [List.length_append]; omega
                  repeat' first | ((first | refine Br.dec ?_ ?_ | refine Br.eqi ?_ ?_) <;> intro h <;> try (exfalso; omega)) | (simp (disch := first | omega | (simp only [vlen]; first | done | omega)) only [hn, vaw, ↓vAq, vBq, ↓reduceIte, Nat.reduceBEq, Nat.reduceEqDiff, Nat.reduceLT, Nat.reduceLeDiff, Nat.reduceAdd, Nat.reduceMul, Nat.reduceSub, reduceCtorEq, Int.reduceToNat]) | (refine Br.mk ?_ ?_ <;> intro h) | (refine BrN.mk (fun h => ?_) ?_) | (refine AltVC.mk ?_ ?_)
                  refine CallVC.stay 4 ?_
                  repeat' first | ((first | refine Br.dec ?_ ?_ | refine Br.eqi ?_ ?_) <;> intro h <;> try (exfalso; omega)) | (simp (disch := first | omega | (simp only [vlen]; first | done | omega)) only [hn, vaw, ↓vAq, vBq, ↓reduceIte, Nat.reduceBEq, Nat.reduceEqDiff, Nat.reduceLT, Nat.reduceLeDiff, Nat.reduceAdd, Nat.reduceMul, Nat.reduceSub, reduceCtorEq, Int.reduceToNat]) | (refine Br.mk ?_ ?_ <;> intro h) | (refine BrN.mk (fun h => ?_) ?_) | (refine AltVC.mk ?_ ?_)
                  refine CallVC.lendE [4] [.ref 0 1 0 ((T.getD b default).ws.length + (T.getD f default).ws.length)] [⟨1, i64s (natI ((T.getD b default).ws ++ (T.getD f default).ws)), true, false, .fix⟩] hso (by simp) (by rfl) (by (simp (disch := first | omega | (simp only [vlen]; first | done | omega)) only [vle0, hn, vaw, ↓vAq, vBq, ↓reduceIte, Nat.reduceBEq, Nat.reduceEqDiff, Nat.reduceLT, Nat.reduceLeDiff, Nat.reduceAdd, Nat.reduceMul, Nat.reduceSub, reduceCtorEq, Int.reduceToNat] <;> (repeat' first | rfl | apply And.intro))) ?_
                  rintro _ _ ⟨rfl, rfl⟩
                  repeat' first | ((first | refine Br.dec ?_ ?_ | refine Br.eqi ?_ ?_) <;> intro h <;> try (exfalso; omega)) | (simp (disch := first | omega | (simp only [vlen]; first | done | omega)) only [hnl, hn, vaw, ↓vAq, vBq, ↓reduceIte, Nat.reduceBEq, Nat.reduceEqDiff, Nat.reduceLT, Nat.reduceLeDiff, Nat.reduceAdd, Nat.reduceMul, Nat.reduceSub, reduceCtorEq, Int.reduceToNat]) | (refine Br.mk ?_ ?_ <;> intro h) | (refine BrN.mk (fun h => ?_) ?_) | (refine AltVC.mk ?_ ?_)
                  refine loopK.fold 4 0 b 3 false ?_
                  repeat' first | ((first | refine Br.dec ?_ ?_ | refine Br.eqi ?_ ?_) <;> intro h <;> try (exfalso; omega)) | (simp (disch := first | omega | (simp only [vlen]; first | done | omega)) only [hnl, hn, vaw, ↓vAq, vBq, ↓reduceIte, Nat.reduceBEq, Nat.reduceEqDiff, Nat.reduceLT, Nat.reduceLeDiff, Nat.reduceAdd, Nat.reduceMul, Nat.reduceSub, reduceCtorEq, Int.reduceToNat]) | (refine Br.mk ?_ ?_ <;> intro h) | (refine BrN.mk (fun h => ?_) ?_) | (refine AltVC.mk ?_ ?_)
                  refine loopK.fold 5 0 f 3 true ?_
                  repeat' first | ((first | refine Br.dec ?_ ?_ | refine Br.eqi ?_ ?_) <;> intro h <;> try (exfalso; omega)) | (simp (disch := first | omega | (simp only [vlen]; first | done | omega)) only [hnl, hn, vaw, ↓vAq, vBq, ↓reduceIte, Nat.reduceBEq, Nat.reduceEqDiff, Nat.reduceLT, Nat.reduceLeDiff, Nat.reduceAdd, Nat.reduceMul, Nat.reduceSub, reduceCtorEq, Int.reduceToNat]) | (refine Br.mk ?_ ?_ <;> intro h) | (refine BrN.mk (fun h => ?_) ?_) | (refine AltVC.mk ?_ ?_)
                  refine loopK.mk (d.toNat + 1, lnk T b f ns, Q ++ [b], R ++ [b], off) (by simp (disch := first | omega | (simp only [vlen]; first | done | omega)) only [hll, vaw, ↓vAq, vBq, ↓reduceIte, Nat.reduceBEq, Nat.reduceEqDiff, Nat.reduceLT, Nat.reduceLeDiff, Nat.reduceAdd, Nat.reduceMul, Nat.reduceSub, reduceCtorEq, Int.reduceToNat]) ⟨by show d.toNat + 1 ≤ 256; omega, hpu, by rw [lnk_len]; exact hn, hQ2, by show i < (Q ++ [b]).length; omega, by rw [getD_app_l hiq]; exact hhe, hdr, by show off ≤ _; rw [List.length_append]; omega⟩ (by show 256 - (d.toNat + 1) < 256 - d.toNat; omega) ?_
                  unfold lnk
                  (simp (disch := first | omega | (simp only [vlen]; first | done | omega)) only [Fits_u, Fits_m, Fits_nil, List.length_append, hnl, hn, hll, vaw, ↓vAq, vBq, ↓reduceIte, Nat.reduceBEq, Nat.reduceEqDiff, Nat.reduceLT, Nat.reduceLeDiff, Nat.reduceAdd, Nat.reduceMul, Nat.reduceSub, reduceCtorEq, Int.reduceToNat] <;> (repeat' first | rfl | apply And.intro))
                  all_goals first
                    | rfl
                    | exact refEq2 (by omega)
                    | trace_state
              · have h0 : nd = 0 := by omega
                have hnQ : nd ∈ Q := by rw [← hhe]; exact q_mem hiq
                have hbn : b ≠ nd := fun e => hbQ (by rw [e]; exact hnQ)
                have hnb : nd ≠ b := fun e => hbn e.symm
                have hf0 : (T.getD b default).fl = nd := by rw [h0]; exact hK.fn b b1 (.inl hbQ)
                have hLS : LS Ss (Ss.getD b []).tail (Ss.getD nd []) := by
                  rw [b2, h0, hz]; exact .self hK.tri.pc.1
                have hwd := hK.words (b := b) (f := nd) (by omega) hbQ (by rw [b2]; simp) hnQ hLS
                have hwsb : (T.getD b default).ws.length ≤ 1000 := by rw [hK.wn b (by omega) hbQ]; exact Nat.le_trans nums_len hW
                have hwsf : (T.getD nd default).ws.length ≤ 1000 := by rw [hK.wq nd hnQ]; exact Nat.le_trans nums_len hW
                have hpu := hK.push (by have := q_mem hQ.pos; rwa [hQ.z] at this) (b := b) (f := nd) (by omega) hbQ (by omega) hLS
                obtain ⟨ns, hns⟩ : ∃ ns, (nums_ W.length fun j => decide (W.getD j [] <:+ Ss.getD b [])) = ns := ⟨_, rfl⟩
                rw [hns] at hwd hpu
                have hnl : (T.getD b default).ws.length + (T.getD nd default).ws.length = ns.length := by
                  have := congrArg List.length hwd
                  rw [srtI_len, natI_len, natI_len, List.length_append] at this
                  exact this
                by_cases he0 : ns.length = 0
                · have hb0 : (T.getD b default).ws = [] := List.eq_nil_of_length_eq_zero (by omega)
                  have hc0 : (T.getD nd default).ws = [] := List.eq_nil_of_length_eq_zero (by omega)
                  have hs0 : ns = [] := List.eq_nil_of_length_eq_zero he0
                  have hvw : viewO (some ⟨1, i64s (natI ((T.getD b default).ws ++ (T.getD nd default).ws)), true, false, .arr⟩) 1 0 ((T.getD b default).ws.length + (T.getD nd default).ws.length) = .sl 1 [] := by rw [hb0, hc0]; exact viewO_all rfl
                  have hcat : (T.getD b default).ws ++ (T.getD nd default).ws = ns := by rw [hb0, hc0, hs0]; rfl
                  repeat' first | ((first | refine Br.dec ?_ ?_ | refine Br.eqi ?_ ?_) <;> intro h <;> try (exfalso; omega)) | (simp (disch := first | omega | (simp only [vlen]; first | done | omega)) only [hf0, hvw, hn, vaw, ↓vAq, vBq, ↓reduceIte, Nat.reduceBEq, Nat.reduceEqDiff, Nat.reduceLT, Nat.reduceLeDiff, Nat.reduceAdd, Nat.reduceMul, Nat.reduceSub, reduceCtorEq, Int.reduceToNat]) | (refine Br.mk ?_ ?_ <;> intro h) | (refine BrN.mk (fun h => ?_) ?_) | (refine AltVC.mk ?_ ?_)
                  refine CallVC.eqo sort0_spec (by simp (disch := first | omega | (simp only [vlen]; first | done | omega)) only [vaw, ↓vAq, vBq, ↓reduceIte, Nat.reduceBEq, Nat.reduceEqDiff, Nat.reduceLT, Nat.reduceLeDiff, Nat.reduceAdd, Nat.reduceMul, Nat.reduceSub, reduceCtorEq, Int.reduceToNat]) ?_
                  repeat' first | ((first | refine Br.dec ?_ ?_ | refine Br.eqi ?_ ?_) <;> intro h <;> try (exfalso; omega)) | (simp (disch := first | omega | (simp only [vlen]; first | done | omega)) only [hcat, hnl, hn, vaw, ↓vAq, vBq, ↓reduceIte, Nat.reduceBEq, Nat.reduceEqDiff, Nat.reduceLT, Nat.reduceLeDiff, Nat.reduceAdd, Nat.reduceMul, Nat.reduceSub, reduceCtorEq, Int.reduceToNat]) | (refine Br.mk ?_ ?_ <;> intro h) | (refine BrN.mk (fun h => ?_) ?_) | (refine AltVC.mk ?_ ?_)
                  refine loopK.fold 4 0 b 3 false ?_
                  repeat' first | ((first | refine Br.dec ?_ ?_ | refine Br.eqi ?_ ?_) <;> intro h <;> try (exfalso; omega)) | (simp (disch := first | omega | (simp only [vlen]; first | done | omega)) only [hcat, hnl, hn, vaw, ↓vAq, vBq, ↓reduceIte, Nat.reduceBEq, Nat.reduceEqDiff, Nat.reduceLT, Nat.reduceLeDiff, Nat.reduceAdd, Nat.reduceMul, Nat.reduceSub, reduceCtorEq, Int.reduceToNat]) | (refine Br.mk ?_ ?_ <;> intro h) | (refine BrN.mk (fun h => ?_) ?_) | (refine AltVC.mk ?_ ?_)
                  refine loopK.fold 5 0 nd 3 false ?_
                  repeat' first | ((first | refine Br.dec ?_ ?_ | refine Br.eqi ?_ ?_) <;> intro h <;> try (exfalso; omega)) | (simp (disch := first | omega | (simp only [vlen]; first | done | omega)) only [hcat, hnl, hn, vaw, ↓vAq, vBq, ↓reduceIte, Nat.reduceBEq, Nat.reduceEqDiff, Nat.reduceLT, Nat.reduceLeDiff, Nat.reduceAdd, Nat.reduceMul, Nat.reduceSub, reduceCtorEq, Int.reduceToNat]) | (refine Br.mk ?_ ?_ <;> intro h) | (refine BrN.mk (fun h => ?_) ?_) | (refine AltVC.mk ?_ ?_)
                  refine loopK.fold 2 0 nd 0 true ?_
                  repeat' first | ((first | refine Br.dec ?_ ?_ | refine Br.eqi ?_ ?_) <;> intro h <;> try (exfalso; omega)) | (simp (disch := first | omega | (simp only [vlen]; first | done | omega)) only [hcat, hnl, hn, vaw, ↓vAq, vBq, ↓reduceIte, Nat.reduceBEq, Nat.reduceEqDiff, Nat.reduceLT, Nat.reduceLeDiff, Nat.reduceAdd, Nat.reduceMul, Nat.reduceSub, reduceCtorEq, Int.reduceToNat]) | (refine Br.mk ?_ ?_ <;> intro h) | (refine BrN.mk (fun h => ?_) ?_) | (refine AltVC.mk ?_ ?_)
                  refine loopK.mk (d.toNat + 1, lnk T b nd ns, Q ++ [b], R ++ [b], off) (by simp (disch := first | omega | (simp only [vlen]; first | done | omega)) only [hll, vaw, ↓vAq, vBq, ↓reduceIte, Nat.reduceBEq, Nat.reduceEqDiff, Nat.reduceLT, Nat.reduceLeDiff, Nat.reduceAdd, Nat.reduceMul, Nat.reduceSub, reduceCtorEq, Int.reduceToNat]) ⟨by show d.toNat + 1 ≤ 256; omega, hpu, by rw [lnk_len]; exact hn, hQ2, by show i < (Q ++ [b]).length; omega, by rw [getD_app_l hiq]; exact hhe, hdr, by show off ≤ _; rw [List.length_append]; omega⟩ (by show 256 - (d.toNat + 1) < 256 - d.toNat; omega) ?_
                  unfold lnk
                  (simp (disch := first | omega | (simp only [vlen]; first | done | omega)) only [Fits_u, Fits_m, Fits_nil, List.length_append, hcat, hnl, hn, hll, vaw, ↓vAq, vBq, ↓reduceIte, Nat.reduceBEq, Nat.reduceEqDiff, Nat.reduceLT, Nat.reduceLeDiff, Nat.reduceAdd, Nat.reduceMul, Nat.reduceSub, reduceCtorEq, Int.reduceToNat] <;> (repeat' first | rfl | apply And.intro))
                  all_goals first
                    | rfl
                    | exact refEq2 (by omega)
                    | trace_state
                · have hso := sort_spec (natI ((T.getD b default).ws ++ (T.getD nd default).ws)) (by rw [natI_len, List.length_append]; omega)
                  rw [hwd, natI_len, List.length_append] at hso
                  have hap : 0 < ((T.getD b default).ws ++ (T.getD nd default).ws).length := by rw [List.length_append]; omega
                  repeat' first | ((first | refine Br.dec ?_ ?_ | refine Br.eqi ?_ ?_) <;> intro h <;> try (exfalso; omega)) | (simp (disch := first | omega | (simp only [vlen]; first | done | omega)) only [hf0, hn, vaw, ↓vAq, vBq, ↓reduceIte, Nat.reduceBEq, Nat.reduceEqDiff, Nat.reduceLT, Nat.reduceLeDiff, Nat.reduceAdd, Nat.reduceMul, Nat.reduceSub, reduceCtorEq, Int.reduceToNat]) | (refine Br.mk ?_ ?_ <;> intro h) | (refine BrN.mk (fun h => ?_) ?_) | (refine AltVC.mk ?_ ?_)
                  refine CallVC.stay 4 ?_
                  repeat' first | ((first | refine Br.dec ?_ ?_ | refine Br.eqi ?_ ?_) <;> intro h <;> try (exfalso; omega)) | (simp (disch := first | omega | (simp only [vlen]; first | done | omega)) only [hn, vaw, ↓vAq, vBq, ↓reduceIte, Nat.reduceBEq, Nat.reduceEqDiff, Nat.reduceLT, Nat.reduceLeDiff, Nat.reduceAdd, Nat.reduceMul, Nat.reduceSub, reduceCtorEq, Int.reduceToNat]) | (refine Br.mk ?_ ?_ <;> intro h) | (refine BrN.mk (fun h => ?_) ?_) | (refine AltVC.mk ?_ ?_)
                  refine CallVC.lendE [4] [.ref 0 1 0 ((T.getD b default).ws.length + (T.getD nd default).ws.length)] [⟨1, i64s (natI ((T.getD b default).ws ++ (T.getD nd default).ws)), true, false, .fix⟩] hso (by simp) (by rfl) (by (simp (disch := first | omega | (simp only [vlen]; first | done | omega)) only [vle0, hn, vaw, ↓vAq, vBq, ↓reduceIte, Nat.reduceBEq, Nat.reduceEqDiff, Nat.reduceLT, Nat.reduceLeDiff, Nat.reduceAdd, Nat.reduceMul, Nat.reduceSub, reduceCtorEq, Int.reduceToNat] <;> (repeat' first | rfl | apply And.intro))) ?_
                  rintro _ _ ⟨rfl, rfl⟩
                  repeat' first | ((first | refine Br.dec ?_ ?_ | refine Br.eqi ?_ ?_) <;> intro h <;> try (exfalso; omega)) | (simp (disch := first | omega | (simp only [vlen]; first | done | omega)) only [hnl, hn, vaw, ↓vAq, vBq, ↓reduceIte, Nat.reduceBEq, Nat.reduceEqDiff, Nat.reduceLT, Nat.reduceLeDiff, Nat.reduceAdd, Nat.reduceMul, Nat.reduceSub, reduceCtorEq, Int.reduceToNat]) | (refine Br.mk ?_ ?_ <;> intro h) | (refine BrN.mk (fun h => ?_) ?_) | (refine AltVC.mk ?_ ?_)
                  refine loopK.fold 4 0 b 3 false ?_
                  repeat' first | ((first | refine Br.dec ?_ ?_ | refine Br.eqi ?_ ?_) <;> intro h <;> try (exfalso; omega)) | (simp (disch := first | omega | (simp only [vlen]; first | done | omega)) only [hnl, hn, vaw, ↓vAq, vBq, ↓reduceIte, Nat.reduceBEq, Nat.reduceEqDiff, Nat.reduceLT, Nat.reduceLeDiff, Nat.reduceAdd, Nat.reduceMul, Nat.reduceSub, reduceCtorEq, Int.reduceToNat]) | (refine Br.mk ?_ ?_ <;> intro h) | (refine BrN.mk (fun h => ?_) ?_) | (refine AltVC.mk ?_ ?_)
                  refine loopK.fold 5 0 nd 3 false ?_
                  repeat' first | ((first | refine Br.dec ?_ ?_ | refine Br.eqi ?_ ?_) <;> intro h <;> try (exfalso; omega)) | (simp (disch := first | omega | (simp only [vlen]; first | done | omega)) only [hnl, hn, vaw, ↓vAq, vBq, ↓reduceIte, Nat.reduceBEq, Nat.reduceEqDiff, Nat.reduceLT, Nat.reduceLeDiff, Nat.reduceAdd, Nat.reduceMul, Nat.reduceSub, reduceCtorEq, Int.reduceToNat]) | (refine Br.mk ?_ ?_ <;> intro h) | (refine BrN.mk (fun h => ?_) ?_) | (refine AltVC.mk ?_ ?_)
                  refine loopK.fold 2 0 nd 0 true ?_
                  repeat' first | ((first | refine Br.dec ?_ ?_ | refine Br.eqi ?_ ?_) <;> intro h <;> try (exfalso; omega)) | (simp (disch := first | omega | (simp only [vlen]; first | done | omega)) only [hnl, hn, vaw, ↓vAq, vBq, ↓reduceIte, Nat.reduceBEq, Nat.reduceEqDiff, Nat.reduceLT, Nat.reduceLeDiff, Nat.reduceAdd, Nat.reduceMul, Nat.reduceSub, reduceCtorEq, Int.reduceToNat]) | (refine Br.mk ?_ ?_ <;> intro h) | (refine BrN.mk (fun h => ?_) ?_) | (refine AltVC.mk ?_ ?_)
                  refine loopK.mk (d.toNat + 1, lnk T b nd ns, Q ++ [b], R ++ [b], off) (by simp (disch := first | omega | (simp only [vlen]; first | done | omega)) only [hll, vaw, ↓vAq, vBq, ↓reduceIte, Nat.reduceBEq, Nat.reduceEqDiff, Nat.reduceLT, Nat.reduceLeDiff, Nat.reduceAdd, Nat.reduceMul, Nat.reduceSub, reduceCtorEq, Int.reduceToNat]) ⟨by show d.toNat + 1 ≤ 256; omega, hpu, by rw [lnk_len]; exact hn, hQ2, by show i < (Q ++ [b]).length; omega, by rw [getD_app_l hiq]; exact hhe, hdr, by show off ≤ _; rw [List.length_append]; omega⟩ (by show 256 - (d.toNat + 1) < 256 - d.toNat; omega) ?_
                  unfold lnk
                  (simp (disch := first | omega | (simp only [vlen]; first | done | omega)) only [Fits_u, Fits_m, Fits_nil, List.length_append, hnl, hn, hll, vaw, ↓vAq, vBq, ↓reduceIte, Nat.reduceBEq, Nat.reduceEqDiff, Nat.reduceLT, Nat.reduceLeDiff, Nat.reduceAdd, Nat.reduceMul, Nat.reduceSub, reduceCtorEq, Int.reduceToNat] <;> (repeat' first | rfl | apply And.intro))
                  all_goals first
                    | rfl
                    | exact refEq2 (by omega)
                    | trace_state
            · repeat' first | ((first | refine Br.dec ?_ ?_ | refine Br.eqi ?_ ?_) <;> intro h <;> try (exfalso; omega)) | (simp (disch := first | omega | (simp only [vlen]; first | done | omega)) only [hn, hTk2, vaw, ↓vAq, vBq, ↓reduceIte, Nat.reduceBEq, Nat.reduceEqDiff, Nat.reduceLT, Nat.reduceLeDiff, Nat.reduceAdd, Nat.reduceMul, Nat.reduceSub, reduceCtorEq, Int.reduceToNat]) | (refine Br.mk ?_ ?_ <;> intro h) | (refine BrN.mk (fun h => ?_) ?_) | (refine AltVC.mk ?_ ?_)
              · refine CallVC.fold 2 0 nd 0 true ?_
                repeat' first | ((first | refine Br.dec ?_ ?_ | refine Br.eqi ?_ ?_) <;> intro h <;> try (exfalso; omega)) | (simp (disch := first | omega | (simp only [vlen]; first | done | omega)) only [hn, vaw, ↓vAq, vBq, ↓reduceIte, Nat.reduceBEq, Nat.reduceEqDiff, Nat.reduceLT, Nat.reduceLeDiff, Nat.reduceAdd, Nat.reduceMul, Nat.reduceSub, reduceCtorEq, Int.reduceToNat]) | (refine Br.mk ?_ ?_ <;> intro h) | (refine BrN.mk (fun h => ?_) ?_) | (refine AltVC.mk ?_ ?_)
                have h0 : nd ≠ 0 := by omega
                obtain ⟨f1, f2⟩ := hK.fl nd (by rw [← hhe]; exact q_mem hiq) h0
                obtain ⟨x0, u0, hxu⟩ : ∃ x u, Ss.getD nd [] = x :: u := by
                  match hh : Ss.getD nd [], hK.tri.ne (by omega) h0 with
                  | x :: u, _ => exact ⟨x, u, rfl⟩
                have hlt : (Ss.getD (T.getD nd default).fl []).length ≤ (Ss.getD nd []).length := by
                  have := f2.1.length_le
                  rw [hxu] at this ⊢
                  simp only [List.tail_cons] at this
                  simp only [List.length_cons]; omega
                have hst := step_spec Ss T hK.tri (by omega) (Ss.getD nd []).length (hSt _ (str_mem (by omega))) (fun a ha ha0 hal => hK.fl a (hQ.below hnod hz hK.tri.pc hiq (by omega) (by rw [hhe]; exact hal)) ha0) (T.getD nd default).fl f1 hlt d
                rw [hn] at hst
                refine CallVC.lendE [0] [.ref 0 4 0 n, iv .i64 (T.getD nd default).fl, .v (.int .u8 (d.toNat : Int))] (ntO T) hst (by simp) (by rfl) (by unfold ntO; (simp (disch := first | omega | (simp only [vlen]; first | done | omega)) only [vle0, hn, vaw, ↓vAq, vBq, ↓reduceIte, Nat.reduceBEq, Nat.reduceEqDiff, Nat.reduceLT, Nat.reduceLeDiff, Nat.reduceAdd, Nat.reduceMul, Nat.reduceSub, reduceCtorEq, Int.reduceToNat] <;> (repeat' first | rfl | apply And.intro))) ?_
                rintro _ _ ⟨rfl, f, rfl, g1, g2⟩
                unfold ntO
                have hLS : LS Ss (Ss.getD b []).tail (Ss.getD f []) := by
                  rw [b2, hxu]
                  have := (f2.snoc hK.tri.pc (c := d) (v := Ss.getD f [])).2 g2
                  rw [hxu] at this
                  exact this
                have hfQ : f ∈ Q := hQ.below hnod hz hK.tri.pc hiq (by omega) (by
                  have := hLS.1.length_le
                  rw [b2, hxu] at this
                  rw [hhe, hxu]
                  simp only [List.cons_append, List.tail_cons, List.length_append, List.length_singleton] at this
                  rw [List.length_cons]; omega)
                have hfb : f ≠ b := fun e => hbQ (e ▸ hfQ)
                have hwd := hK.words (b := b) (f := f) (by omega) hbQ (by rw [b2]; simp) hfQ hLS
                have hwsb : (T.getD b default).ws.length ≤ 1000 := by rw [hK.wn b (by omega) hbQ]; exact Nat.le_trans nums_len hW
                have hwsf : (T.getD f default).ws.length ≤ 1000 := by rw [hK.wq f hfQ]; exact Nat.le_trans nums_len hW
                have hpu := hK.push (by have := q_mem hQ.pos; rwa [hQ.z] at this) (b := b) (f := f) (by omega) hbQ g1 hLS
                obtain ⟨ns, hns⟩ : ∃ ns, (nums_ W.length fun j => decide (W.getD j [] <:+ Ss.getD b [])) = ns := ⟨_, rfl⟩
                rw [hns] at hwd hpu
                have hnl : (T.getD b default).ws.length + (T.getD f default).ws.length = ns.length := by
                  have := congrArg List.length hwd
                  rw [srtI_len, natI_len, natI_len, List.length_append] at this
                  exact this
                by_cases he0 : ns.length = 0
                · have hb0 : (T.getD b default).ws = [] := List.eq_nil_of_length_eq_zero (by omega)
                  have hc0 : (T.getD f default).ws = [] := List.eq_nil_of_length_eq_zero (by omega)
                  have hs0 : ns = [] := List.eq_nil_of_length_eq_zero he0
                  have hvw : viewO (some ⟨1, i64s (natI ((T.getD b default).ws ++ (T.getD f default).ws)), true, false, .arr⟩) 1 0 ((T.getD b default).ws.length + (T.getD f default).ws.length) = .sl 1 [] := by rw [hb0, hc0]; exact viewO_all rfl
                  have hcat : (T.getD b default).ws ++ (T.getD f default).ws = ns := by rw [hb0, hc0, hs0]; rfl
                  repeat' first | ((first | refine Br.dec ?_ ?_ | refine Br.eqi ?_ ?_) <;> intro h <;> try (exfalso; omega)) | (simp (disch := first | omega | (simp only [vlen]; first | done | omega)) only [hvw, hn, vaw, ↓vAq, vBq, ↓reduceIte, Nat.reduceBEq, Nat.reduceEqDiff, Nat.reduceLT, Nat.reduceLeDiff, Nat.reduceAdd, Nat.reduceMul, Nat.reduceSub, reduceCtorEq, Int.reduceToNat]) | (refine Br.mk ?_ ?_ <;> intro h) | (refine BrN.mk (fun h => ?_) ?_) | (refine AltVC.mk ?_ ?_)
                  refine CallVC.eqo sort0_spec (by simp (disch := first | omega | (simp only [vlen]; first | done | omega)) only [vaw, ↓vAq, vBq, ↓reduceIte, Nat.reduceBEq, Nat.reduceEqDiff, Nat.reduceLT, Nat.reduceLeDiff, Nat.reduceAdd, Nat.reduceMul, Nat.reduceSub, reduceCtorEq, Int.reduceToNat]) ?_
                  repeat' first | ((first | refine Br.dec ?_ ?_ | refine Br.eqi ?_ ?_) <;> intro h <;> try (exfalso; omega)) | (simp (disch := first | omega | (simp only [vlen]; first | done | omega)) only [hcat, hnl, hn, vaw, ↓vAq, vBq, ↓reduceIte, Nat.reduceBEq, Nat.reduceEqDiff, Nat.reduceLT, Nat.reduceLeDiff, Nat.reduceAdd, Nat.reduceMul, Nat.reduceSub, reduceCtorEq, Int.reduceToNat]) | (refine Br.mk ?_ ?_ <;> intro h) | (refine BrN.mk (fun h => ?_) ?_) | (refine AltVC.mk ?_ ?_)
                  refine loopK.fold 4 0 b 3 false ?_
                  repeat' first | ((first | refine Br.dec ?_ ?_ | refine Br.eqi ?_ ?_) <;> intro h <;> try (exfalso; omega)) | (simp (disch := first | omega | (simp only [vlen]; first | done | omega)) only [hcat, hnl, hn, vaw, ↓vAq, vBq, ↓reduceIte, Nat.reduceBEq, Nat.reduceEqDiff, Nat.reduceLT, Nat.reduceLeDiff, Nat.reduceAdd, Nat.reduceMul, Nat.reduceSub, reduceCtorEq, Int.reduceToNat]) | (refine Br.mk ?_ ?_ <;> intro h) | (refine BrN.mk (fun h => ?_) ?_) | (refine AltVC.mk ?_ ?_)
                  refine loopK.fold 5 0 f 3 true ?_
                  repeat' first | ((first | refine Br.dec ?_ ?_ | refine Br.eqi ?_ ?_) <;> intro h <;> try (exfalso; omega)) | (simp (disch := first | omega | (simp only [vlen]; first | done | omega)) only [hcat, hnl, hn, vaw, ↓vAq, vBq, ↓reduceIte, Nat.reduceBEq, Nat.reduceEqDiff, Nat.reduceLT, Nat.reduceLeDiff, Nat.reduceAdd, Nat.reduceMul, Nat.reduceSub, reduceCtorEq, Int.reduceToNat]) | (refine Br.mk ?_ ?_ <;> intro h) | (refine BrN.mk (fun h => ?_) ?_) | (refine AltVC.mk ?_ ?_)
                  refine loopK.mk (d.toNat + 1, lnk T b f ns, Q ++ [b], R.drop off ++ [b], 0) (by simp (disch := first | omega | (simp only [vlen]; first | done | omega)) only [hll, vaw, ↓vAq, vBq, ↓reduceIte, Nat.reduceBEq, Nat.reduceEqDiff, Nat.reduceLT, Nat.reduceLeDiff, Nat.reduceAdd, Nat.reduceMul, Nat.reduceSub, reduceCtorEq, Int.reduceToNat]) ⟨by show d.toNat + 1 ≤ 256; omega, hpu, by rw [lnk_len]; exact hn, hQ2, by show i < (Q ++ [b]).length; omega, by rw [getD_app_l hiq]; exact hhe, by show (R.drop off ++ [b]).drop 0 = (Q ++ [b]).drop (i + 1); rw [List.drop_zero, hR, List.drop_append_of_le_length (by omega)], Nat.zero_le _⟩ (by show 256 - (d.toNat + 1) < 256 - d.toNat; omega) ?_
                  unfold lnk
                  (simp (disch := first | omega | (simp only [vlen]; first | done | omega)) only [Fits_u, Fits_m, Fits_nil, List.length_append, hcat, hnl, hn, hll, vaw, ↓vAq, vBq, ↓reduceIte, Nat.reduceBEq, Nat.reduceEqDiff, Nat.reduceLT, Nat.reduceLeDiff, Nat.reduceAdd, Nat.reduceMul, Nat.reduceSub, reduceCtorEq, Int.reduceToNat] <;> (repeat' first | rfl | apply And.intro))
                  all_goals first
                    | rfl
                    | exact refEq2 (by omega)
                    | trace_state
                · have hso := sort_spec (natI ((T.getD b default).ws ++ (T.getD f default).ws)) (by rw [natI_len, List.length_append]; omega)
                  rw [hwd, natI_len, List.length_append] at hso
                  have hap : 0 < ((T.getD b default).ws ++ (T.getD f default).ws).length := by rw [List.length_append]; omega
                  repeat' first | ((first | refine Br.dec ?_ ?_ | refine Br.eqi ?_ ?_) <;> intro h <;> try (exfalso; omega)) | (simp (disch := first | omega | (simp only [vlen]; first | done | omega)) only [hn, vaw, ↓vAq, vBq, ↓reduceIte, Nat.reduceBEq, Nat.reduceEqDiff, Nat.reduceLT, Nat.reduceLeDiff, Nat.reduceAdd, Nat.reduceMul, Nat.reduceSub, reduceCtorEq, Int.reduceToNat]) | (refine Br.mk ?_ ?_ <;> intro h) | (refine BrN.mk (fun h => ?_) ?_) | (refine AltVC.mk ?_ ?_)
                  refine CallVC.stay 4 ?_
                  repeat' first | ((first | refine Br.dec ?_ ?_ | refine Br.eqi ?_ ?_) <;> intro h <;> try (exfalso; omega)) | (simp (disch := first | omega | (simp only [vlen]; first | done | omega)) only [hn, vaw, ↓vAq, vBq, ↓reduceIte, Nat.reduceBEq, Nat.reduceEqDiff, Nat.reduceLT, Nat.reduceLeDiff, Nat.reduceAdd, Nat.reduceMul, Nat.reduceSub, reduceCtorEq, Int.reduceToNat]) | (refine Br.mk ?_ ?_ <;> intro h) | (refine BrN.mk (fun h => ?_) ?_) | (refine AltVC.mk ?_ ?_)
                  refine CallVC.lendE [4] [.ref 0 1 0 ((T.getD b default).ws.length + (T.getD f default).ws.length)] [⟨1, i64s (natI ((T.getD b default).ws ++ (T.getD f default).ws)), true, false, .fix⟩] hso (by simp) (by rfl) (by (simp (disch := first | omega | (simp only [vlen]; first | done | omega)) only [vle0, hn, vaw, ↓vAq, vBq, ↓reduceIte, Nat.reduceBEq, Nat.reduceEqDiff, Nat.reduceLT, Nat.reduceLeDiff, Nat.reduceAdd, Nat.reduceMul, Nat.reduceSub, reduceCtorEq, Int.reduceToNat] <;> (repeat' first | rfl | apply And.intro))) ?_
                  rintro _ _ ⟨rfl, rfl⟩
                  repeat' first | ((first | refine Br.dec ?_ ?_ | refine Br.eqi ?_ ?_) <;> intro h <;> try (exfalso; omega)) | (simp (disch := first | omega | (simp only [vlen]; first | done | omega)) only [hnl, hn, vaw, ↓vAq, vBq, ↓reduceIte, Nat.reduceBEq, Nat.reduceEqDiff, Nat.reduceLT, Nat.reduceLeDiff, Nat.reduceAdd, Nat.reduceMul, Nat.reduceSub, reduceCtorEq, Int.reduceToNat]) | (refine Br.mk ?_ ?_ <;> intro h) | (refine BrN.mk (fun h => ?_) ?_) | (refine AltVC.mk ?_ ?_)
                  refine loopK.fold 4 0 b 3 false ?_
                  repeat' first | ((first | refine Br.dec ?_ ?_ | refine Br.eqi ?_ ?_) <;> intro h <;> try (exfalso; omega)) | (simp (disch := first | omega | (simp only [vlen]; first | done | omega)) only [hnl, hn, vaw, ↓vAq, vBq, ↓reduceIte, Nat.reduceBEq, Nat.reduceEqDiff, Nat.reduceLT, Nat.reduceLeDiff, Nat.reduceAdd, Nat.reduceMul, Nat.reduceSub, reduceCtorEq, Int.reduceToNat]) | (refine Br.mk ?_ ?_ <;> intro h) | (refine BrN.mk (fun h => ?_) ?_) | (refine AltVC.mk ?_ ?_)
                  refine loopK.fold 5 0 f 3 true ?_
                  repeat' first | ((first | refine Br.dec ?_ ?_ | refine Br.eqi ?_ ?_) <;> intro h <;> try (exfalso; omega)) | (simp (disch := first | omega | (simp only [vlen]; first | done | omega)) only [hnl, hn, vaw, ↓vAq, vBq, ↓reduceIte, Nat.reduceBEq, Nat.reduceEqDiff, Nat.reduceLT, Nat.reduceLeDiff, Nat.reduceAdd, Nat.reduceMul, Nat.reduceSub, reduceCtorEq, Int.reduceToNat]) | (refine Br.mk ?_ ?_ <;> intro h) | (refine BrN.mk (fun h => ?_) ?_) | (refine AltVC.mk ?_ ?_)
                  refine loopK.mk (d.toNat + 1, lnk T b f ns, Q ++ [b], R.drop off ++ [b], 0) (by simp (disch := first | omega | (simp only [vlen]; first | done | omega)) only [hll, vaw, ↓vAq, vBq, ↓reduceIte, Nat.reduceBEq, Nat.reduceEqDiff, Nat.reduceLT, Nat.reduceLeDiff, Nat.reduceAdd, Nat.reduceMul, Nat.reduceSub, reduceCtorEq, Int.reduceToNat]) ⟨by show d.toNat + 1 ≤ 256; omega, hpu, by rw [lnk_len]; exact hn, hQ2, by show i < (Q ++ [b]).length; omega, by rw [getD_app_l hiq]; exact hhe, by show (R.drop off ++ [b]).drop 0 = (Q ++ [b]).drop (i + 1); rw [List.drop_zero, hR, List.drop_append_of_le_length (by omega)], Nat.zero_le _⟩ (by show 256 - (d.toNat + 1) < 256 - d.toNat; omega) ?_
                  unfold lnk
                  (simp (disch := first | omega | (simp only [vlen]; first | done | omega)) only [Fits_u, Fits_m, Fits_nil, List.length_append, hnl, hn, hll, vaw, ↓vAq, vBq, ↓reduceIte, Nat.reduceBEq, Nat.reduceEqDiff, Nat.reduceLT, Nat.reduceLeDiff, Nat.reduceAdd, Nat.reduceMul, Nat.reduceSub, reduceCtorEq, Int.reduceToNat] <;> (repeat' first | rfl | apply And.intro))
                  all_goals first
                    | rfl
                    | exact refEq2 (by omega)
                    | trace_state
              · have h0 : nd = 0 := by omega
                have hnQ : nd ∈ Q := by rw [← hhe]; exact q_mem hiq
                have hbn : b ≠ nd := fun e => hbQ (by rw [e]; exact hnQ)
                have hnb : nd ≠ b := fun e => hbn e.symm
                have hf0 : (T.getD b default).fl = nd := by rw [h0]; exact hK.fn b b1 (.inl hbQ)
                have hLS : LS Ss (Ss.getD b []).tail (Ss.getD nd []) := by
                  rw [b2, h0, hz]; exact .self hK.tri.pc.1
                have hwd := hK.words (b := b) (f := nd) (by omega) hbQ (by rw [b2]; simp) hnQ hLS
                have hwsb : (T.getD b default).ws.length ≤ 1000 := by rw [hK.wn b (by omega) hbQ]; exact Nat.le_trans nums_len hW
                have hwsf : (T.getD nd default).ws.length ≤ 1000 := by rw [hK.wq nd hnQ]; exact Nat.le_trans nums_len hW
                have hpu := hK.push (by have := q_mem hQ.pos; rwa [hQ.z] at this) (b := b) (f := nd) (by omega) hbQ (by omega) hLS
                obtain ⟨ns, hns⟩ : ∃ ns, (nums_ W.length fun j => decide (W.getD j [] <:+ Ss.getD b [])) = ns := ⟨_, rfl⟩
                rw [hns] at hwd hpu
                have hnl : (T.getD b default).ws.length + (T.getD nd default).ws.length = ns.length := by
                  have := congrArg List.length hwd
                  rw [srtI_len, natI_len, natI_len, List.length_append] at this
                  exact this
                by_cases he0 : ns.length = 0
                · have hb0 : (T.getD b default).ws = [] := List.eq_nil_of_length_eq_zero (by omega)
                  have hc0 : (T.getD nd default).ws = [] := List.eq_nil_of_length_eq_zero (by omega)
                  have hs0 : ns = [] := List.eq_nil_of_length_eq_zero he0
                  have hvw : viewO (some ⟨1, i64s (natI ((T.getD b default).ws ++ (T.getD nd default).ws)), true, false, .arr⟩) 1 0 ((T.getD b default).ws.length + (T.getD nd default).ws.length) = .sl 1 [] := by rw [hb0, hc0]; exact viewO_all rfl
                  have hcat : (T.getD b default).ws ++ (T.getD nd default).ws = ns := by rw [hb0, hc0, hs0]; rfl
                  repeat' first | ((first | refine Br.dec ?_ ?_ | refine Br.eqi ?_ ?_) <;> intro h <;> try (exfalso; omega)) | (simp (disch := first | omega | (simp only [vlen]; first | done | omega)) only [hf0, hvw, hn, vaw, ↓vAq, vBq, ↓reduceIte, Nat.reduceBEq, Nat.reduceEqDiff, Nat.reduceLT, Nat.reduceLeDiff, Nat.reduceAdd, Nat.reduceMul, Nat.reduceSub, reduceCtorEq, Int.reduceToNat]) | (refine Br.mk ?_ ?_ <;> intro h) | (refine BrN.mk (fun h => ?_) ?_) | (refine AltVC.mk ?_ ?_)
                  refine CallVC.eqo sort0_spec (by simp (disch := first | omega | (simp only [vlen]; first | done | omega)) only [vaw, ↓vAq, vBq, ↓reduceIte, Nat.reduceBEq, Nat.reduceEqDiff, Nat.reduceLT, Nat.reduceLeDiff, Nat.reduceAdd, Nat.reduceMul, Nat.reduceSub, reduceCtorEq, Int.reduceToNat]) ?_
                  repeat' first | ((first | refine Br.dec ?_ ?_ | refine Br.eqi ?_ ?_) <;> intro h <;> try (exfalso; omega)) | (simp (disch := first | omega | (simp only [vlen]; first | done | omega)) only [hcat, hnl, hn, vaw, ↓vAq, vBq, ↓reduceIte, Nat.reduceBEq, Nat.reduceEqDiff, Nat.reduceLT, Nat.reduceLeDiff, Nat.reduceAdd, Nat.reduceMul, Nat.reduceSub, reduceCtorEq, Int.reduceToNat]) | (refine Br.mk ?_ ?_ <;> intro h) | (refine BrN.mk (fun h => ?_) ?_) | (refine AltVC.mk ?_ ?_)
                  refine loopK.fold 4 0 b 3 false ?_
                  repeat' first | ((first | refine Br.dec ?_ ?_ | refine Br.eqi ?_ ?_) <;> intro h <;> try (exfalso; omega)) | (simp (disch := first | omega | (simp only [vlen]; first | done | omega)) only [hcat, hnl, hn, vaw, ↓vAq, vBq, ↓reduceIte, Nat.reduceBEq, Nat.reduceEqDiff, Nat.reduceLT, Nat.reduceLeDiff, Nat.reduceAdd, Nat.reduceMul, Nat.reduceSub, reduceCtorEq, Int.reduceToNat]) | (refine Br.mk ?_ ?_ <;> intro h) | (refine BrN.mk (fun h => ?_) ?_) | (refine AltVC.mk ?_ ?_)
                  refine loopK.fold 5 0 nd 3 false ?_
                  repeat' first | ((first | refine Br.dec ?_ ?_ | refine Br.eqi ?_ ?_) <;> intro h <;> try (exfalso; omega)) | (simp (disch := first | omega | (simp only [vlen]; first | done | omega)) only [hcat, hnl, hn, vaw, ↓vAq, vBq, ↓reduceIte, Nat.reduceBEq, Nat.reduceEqDiff, Nat.reduceLT, Nat.reduceLeDiff, Nat.reduceAdd, Nat.reduceMul, Nat.reduceSub, reduceCtorEq, Int.reduceToNat]) | (refine Br.mk ?_ ?_ <;> intro h) | (refine BrN.mk (fun h => ?_) ?_) | (refine AltVC.mk ?_ ?_)
                  refine loopK.fold 2 0 nd 0 true ?_
                  repeat' first | ((first | refine Br.dec ?_ ?_ | refine Br.eqi ?_ ?_) <;> intro h <;> try (exfalso; omega)) | (simp (disch := first | omega | (simp only [vlen]; first | done | omega)) only [hcat, hnl, hn, vaw, ↓vAq, vBq, ↓reduceIte, Nat.reduceBEq, Nat.reduceEqDiff, Nat.reduceLT, Nat.reduceLeDiff, Nat.reduceAdd, Nat.reduceMul, Nat.reduceSub, reduceCtorEq, Int.reduceToNat]) | (refine Br.mk ?_ ?_ <;> intro h) | (refine BrN.mk (fun h => ?_) ?_) | (refine AltVC.mk ?_ ?_)
                  refine loopK.mk (d.toNat + 1, lnk T b nd ns, Q ++ [b], R.drop off ++ [b], 0) (by simp (disch := first | omega | (simp only [vlen]; first | done | omega)) only [hll, vaw, ↓vAq, vBq, ↓reduceIte, Nat.reduceBEq, Nat.reduceEqDiff, Nat.reduceLT, Nat.reduceLeDiff, Nat.reduceAdd, Nat.reduceMul, Nat.reduceSub, reduceCtorEq, Int.reduceToNat]) ⟨by show d.toNat + 1 ≤ 256; omega, hpu, by rw [lnk_len]; exact hn, hQ2, by show i < (Q ++ [b]).length; omega, by rw [getD_app_l hiq]; exact hhe, by show (R.drop off ++ [b]).drop 0 = (Q ++ [b]).drop (i + 1); rw [List.drop_zero, hR, List.drop_append_of_le_length (by omega)], Nat.zero_le _⟩ (by show 256 - (d.toNat + 1) < 256 - d.toNat; omega) ?_
                  unfold lnk
                  (simp (disch := first | omega | (simp only [vlen]; first | done | omega)) only [Fits_u, Fits_m, Fits_nil, List.length_append, hcat, hnl, hn, hll, vaw, ↓vAq, vBq, ↓reduceIte, Nat.reduceBEq, Nat.reduceEqDiff, Nat.reduceLT, Nat.reduceLeDiff, Nat.reduceAdd, Nat.reduceMul, Nat.reduceSub, reduceCtorEq, Int.reduceToNat] <;> (repeat' first | rfl | apply And.intro))
                  all_goals first
                    | rfl
                    | exact refEq2 (by omega)
                    | trace_state
                · have hso := sort_spec (natI ((T.getD b default).ws ++ (T.getD nd default).ws)) (by rw [natI_len, List.length_append]; omega)
                  rw [hwd, natI_len, List.length_append] at hso
                  have hap : 0 < ((T.getD b default).ws ++ (T.getD nd default).ws).length := by rw [List.length_append]; omega
                  repeat' first | ((first | refine Br.dec ?_ ?_ | refine Br.eqi ?_ ?_) <;> intro h <;> try (exfalso; omega)) | (simp (disch := first | omega | (simp only [vlen]; first | done | omega)) only [hf0, hn, vaw, ↓vAq, vBq, ↓reduceIte, Nat.reduceBEq, Nat.reduceEqDiff, Nat.reduceLT, Nat.reduceLeDiff, Nat.reduceAdd, Nat.reduceMul, Nat.reduceSub, reduceCtorEq, Int.reduceToNat]) | (refine Br.mk ?_ ?_ <;> intro h) | (refine BrN.mk (fun h => ?_) ?_) | (refine AltVC.mk ?_ ?_)
                  refine CallVC.stay 4 ?_
                  repeat' first | ((first | refine Br.dec ?_ ?_ | refine Br.eqi ?_ ?_) <;> intro h <;> try (exfalso; omega)) | (simp (disch := first | omega | (simp only [vlen]; first | done | omega)) only [hn, vaw, ↓vAq, vBq, ↓reduceIte, Nat.reduceBEq, Nat.reduceEqDiff, Nat.reduceLT, Nat.reduceLeDiff, Nat.reduceAdd, Nat.reduceMul, Nat.reduceSub, reduceCtorEq, Int.reduceToNat]) | (refine Br.mk ?_ ?_ <;> intro h) | (refine BrN.mk (fun h => ?_) ?_) | (refine AltVC.mk ?_ ?_)
                  refine CallVC.lendE [4] [.ref 0 1 0 ((T.getD b default).ws.length + (T.getD nd default).ws.length)] [⟨1, i64s (natI ((T.getD b default).ws ++ (T.getD nd default).ws)), true, false, .fix⟩] hso (by simp) (by rfl) (by (simp (disch := first | omega | (simp only [vlen]; first | done | omega)) only [vle0, hn, vaw, ↓vAq, vBq, ↓reduceIte, Nat.reduceBEq, Nat.reduceEqDiff, Nat.reduceLT, Nat.reduceLeDiff, Nat.reduceAdd, Nat.reduceMul, Nat.reduceSub, reduceCtorEq, Int.reduceToNat] <;> (repeat' first | rfl | apply And.intro))) ?_
                  rintro _ _ ⟨rfl, rfl⟩
                  repeat' first | ((first | refine Br.dec ?_ ?_ | refine Br.eqi ?_ ?_) <;> intro h <;> try (exfalso; omega)) | (simp (disch := first | omega | (simp only [vlen]; first | done | omega)) only [hnl, hn, vaw, ↓vAq, vBq, ↓reduceIte, Nat.reduceBEq, Nat.reduceEqDiff, Nat.reduceLT, Nat.reduceLeDiff, Nat.reduceAdd, Nat.reduceMul, Nat.reduceSub, reduceCtorEq, Int.reduceToNat]) | (refine Br.mk ?_ ?_ <;> intro h) | (refine BrN.mk (fun h => ?_) ?_) | (refine AltVC.mk ?_ ?_)
                  refine loopK.fold 4 0 b 3 false ?_
                  repeat' first | ((first | refine Br.dec ?_ ?_ | refine Br.eqi ?_ ?_) <;> intro h <;> try (exfalso; omega)) | (simp (disch := first | omega | (simp only [vlen]; first | done | omega)) only [hnl, hn, vaw, ↓vAq, vBq, ↓reduceIte, Nat.reduceBEq, Nat.reduceEqDiff, Nat.reduceLT, Nat.reduceLeDiff, Nat.reduceAdd, Nat.reduceMul, Nat.reduceSub, reduceCtorEq, Int.reduceToNat]) | (refine Br.mk ?_ ?_ <;> intro h) | (refine BrN.mk (fun h => ?_) ?_) | (refine AltVC.mk ?_ ?_)
                  refine loopK.fold 5 0 nd 3 false ?_
                  repeat' first | ((first | refine Br.dec ?_ ?_ | refine Br.eqi ?_ ?_) <;> intro h <;> try (exfalso; omega)) | (simp (disch := first | omega | (simp only [vlen]; first | done | omega)) only [hnl, hn, vaw, ↓vAq, vBq, ↓reduceIte, Nat.reduceBEq, Nat.reduceEqDiff, Nat.reduceLT, Nat.reduceLeDiff, Nat.reduceAdd, Nat.reduceMul, Nat.reduceSub, reduceCtorEq, Int.reduceToNat]) | (refine Br.mk ?_ ?_ <;> intro h) | (refine BrN.mk (fun h => ?_) ?_) | (refine AltVC.mk ?_ ?_)
                  refine loopK.fold 2 0 nd 0 true ?_
                  repeat' first | ((first | refine Br.dec ?_ ?_ | refine Br.eqi ?_ ?_) <;> intro h <;> try (exfalso; omega)) | (simp (disch := first | omega | (simp only [vlen]; first | done | omega)) only [hnl, hn, vaw, ↓vAq, vBq, ↓reduceIte, Nat.reduceBEq, Nat.reduceEqDiff, Nat.reduceLT, Nat.reduceLeDiff, Nat.reduceAdd, Nat.reduceMul, Nat.reduceSub, reduceCtorEq, Int.reduceToNat]) | (refine Br.mk ?_ ?_ <;> intro h) | (refine BrN.mk (fun h => ?_) ?_) | (refine AltVC.mk ?_ ?_)
                  refine loopK.mk (d.toNat + 1, lnk T b nd ns, Q ++ [b], R.drop off ++ [b], 0) (by simp (disch := first | omega | (simp only [vlen]; first | done | omega)) only [hll, vaw, ↓vAq, vBq, ↓reduceIte, Nat.reduceBEq, Nat.reduceEqDiff, Nat.reduceLT, Nat.reduceLeDiff, Nat.reduceAdd, Nat.reduceMul, Nat.reduceSub, reduceCtorEq, Int.reduceToNat]) ⟨by show d.toNat + 1 ≤ 256; omega, hpu, by rw [lnk_len]; exact hn, hQ2, by show i < (Q ++ [b]).length; omega, by rw [getD_app_l hiq]; exact hhe, by show (R.drop off ++ [b]).drop 0 = (Q ++ [b]).drop (i + 1); rw [List.drop_zero, hR, List.drop_append_of_le_length (by omega)], Nat.zero_le _⟩ (by show 256 - (d.toNat + 1) < 256 - d.toNat; omega) ?_
                  unfold lnk
                  (simp (disch := first | omega | (simp only [vlen]; first | done | omega)) only [Fits_u, Fits_m, Fits_nil, List.length_append, hnl, hn, hll, vaw, ↓vAq, vBq, ↓reduceIte, Nat.reduceBEq, Nat.reduceEqDiff, Nat.reduceLT, Nat.reduceLeDiff, Nat.reduceAdd, Nat.reduceMul, Nat.reduceSub, reduceCtorEq, Int.reduceToNat] <;> (repeat' first | rfl | apply And.intro))
                  all_goals first
                    | rfl
                    | exact refEq2 (by omega)
                    | trace_state
          · have hno2 := ac_out hno
            repeat' first | ((first | refine Br.dec ?_ ?_ | refine Br.eqi ?_ ?_) <;> intro h <;> try (exfalso; omega)) | (simp (disch := first | omega | (simp only [vlen]; first | done | omega)) only [hn, vaw, ↓vAq, vBq, ↓reduceIte, Nat.reduceBEq, Nat.reduceEqDiff, Nat.reduceLT, Nat.reduceLeDiff, Nat.reduceAdd, Nat.reduceMul, Nat.reduceSub, reduceCtorEq, Int.reduceToNat]) | (refine Br.mk ?_ ?_ <;> intro h) | (refine BrN.mk (fun h => ?_) ?_) | (refine AltVC.mk ?_ ?_)
            refine loopK.fold 2 0 nd 0 true ?_
            repeat' first | ((first | refine Br.dec ?_ ?_ | refine Br.eqi ?_ ?_) <;> intro h <;> try (exfalso; omega)) | (simp (disch := first | omega | (simp only [vlen]; first | done | omega)) only [hn, vaw, ↓vAq, vBq, ↓reduceIte, Nat.reduceBEq, Nat.reduceEqDiff, Nat.reduceLT, Nat.reduceLeDiff, Nat.reduceAdd, Nat.reduceMul, Nat.reduceSub, reduceCtorEq, Int.reduceToNat]) | (refine Br.mk ?_ ?_ <;> intro h) | (refine BrN.mk (fun h => ?_) ?_) | (refine AltVC.mk ?_ ?_)
            refine loopK.mk (d.toNat + 1, T, Q, R, off) (by simp (disch := first | omega | (simp only [vlen]; first | done | omega)) only [vaw, ↓vAq, vBq, ↓reduceIte, Nat.reduceBEq, Nat.reduceEqDiff, Nat.reduceLT, Nat.reduceLeDiff, Nat.reduceAdd, Nat.reduceMul, Nat.reduceSub, reduceCtorEq, Int.reduceToNat]) ⟨by show d.toNat + 1 ≤ 256; omega, hK, hn, hQ.skip fun b hb d' hd' e => hno2 ⟨b, ?_⟩, hiq, hhe, hR, ho⟩ (by show 256 - (d.toNat + 1) < 256 - d.toNat; omega) ?_
            · have ed : d' = d := UInt8.toNat_inj.1 hd'
              subst ed
              rw [hhe] at e
              exact (hnx b).2 ⟨by omega, e⟩
            (simp (disch := first | omega | (simp only [vlen]; first | done | omega)) only [Fits_u, Fits_m, Fits_nil, List.length_append, hn, vaw, ↓vAq, vBq, ↓reduceIte, Nat.reduceBEq, Nat.reduceEqDiff, Nat.reduceLT, Nat.reduceLeDiff, Nat.reduceAdd, Nat.reduceMul, Nat.reduceSub, reduceCtorEq, Int.reduceToNat] <;> (repeat' first | rfl | apply And.intro))
            all_goals first | rfl | trace_state
        · have hce : c = 256 := by omega
          subst hce
          repeat' first | ((first | refine Br.dec ?_ ?_ | refine Br.eqi ?_ ?_) <;> intro h <;> try (exfalso; omega)) | (simp (disch := first | omega | (simp only [vlen]; first | done | omega)) only [hn, vaw, ↓vAq, vBq, ↓reduceIte, Nat.reduceBEq, Nat.reduceEqDiff, Nat.reduceLT, Nat.reduceLeDiff, Nat.reduceAdd, Nat.reduceMul, Nat.reduceSub, reduceCtorEq, Int.reduceToNat]) | (refine Br.mk ?_ ?_ <;> intro h) | (refine BrN.mk (fun h => ?_) ?_) | (refine AltVC.mk ?_ ?_)
          refine loopK.mk (T, Q, i + 1, R, off) (by simp (disch := first | omega | (simp only [vlen]; first | done | omega)) only [vaw, ↓vAq, vBq, ↓reduceIte, Nat.reduceBEq, Nat.reduceEqDiff, Nat.reduceLT, Nat.reduceLeDiff, Nat.reduceAdd, Nat.reduceMul, Nat.reduceSub, reduceCtorEq, Int.reduceToNat]) ⟨hK, hn, hQ.next, by show i + 1 ≤ Q.length; omega, hR, ho⟩ (by show n - (i + 1) < n - i; omega) ?_
          (simp (disch := first | omega | (simp only [vlen]; first | done | omega)) only [Fits_u, Fits_m, Fits_nil, List.length_append, hn, vaw, ↓vAq, vBq, ↓reduceIte, Nat.reduceBEq, Nat.reduceEqDiff, Nat.reduceLT, Nat.reduceLeDiff, Nat.reduceAdd, Nat.reduceMul, Nat.reduceSub, reduceCtorEq, Int.reduceToNat] <;> (repeat' first | rfl | apply And.intro))
          all_goals first | rfl | trace_state
    · have hie : i = Q.length := by omega
      have hF := hK.fin hQ hie
      repeat' first | ((first | refine Br.dec ?_ ?_ | refine Br.eqi ?_ ?_) <;> intro h <;> try (exfalso; omega)) | (simp (disch := first | omega | (simp only [vlen]; first | done | omega)) only [hn, vaw, ↓vAq, vBq, ↓reduceIte, Nat.reduceBEq, Nat.reduceEqDiff, Nat.reduceLT, Nat.reduceLeDiff, Nat.reduceAdd, Nat.reduceMul, Nat.reduceSub, reduceCtorEq, Int.reduceToNat]) | (refine Br.mk ?_ ?_ <;> intro h) | (refine BrN.mk (fun h => ?_) ?_) | (refine AltVC.mk ?_ ?_)
      refine nt_fin (T := T) (by simp (disch := first | omega | (simp only [vlen]; first | done | omega)) only [vaw, ↓vAq, vBq, ↓reduceIte, Nat.reduceBEq, Nat.reduceEqDiff, Nat.reduceLT, Nat.reduceLeDiff, Nat.reduceAdd, Nat.reduceMul, Nat.reduceSub, reduceCtorEq, Int.reduceToNat]) (by unfold ntO; simp (disch := first | omega | (simp only [vlen]; first | done | omega)) only [vaw, ↓vAq, vBq, ↓reduceIte, Nat.reduceBEq, Nat.reduceEqDiff, Nat.reduceLT, Nat.reduceLeDiff, Nat.reduceAdd, Nat.reduceMul, Nat.reduceSub, reduceCtorEq, Int.reduceToNat]) ⟨by simp (disch := first | omega | (simp only [vlen]; first | done | omega)) only [vaw, ↓vAq, vBq, ↓reduceIte, Nat.reduceBEq, Nat.reduceEqDiff, Nat.reduceLT, Nat.reduceLeDiff, Nat.reduceAdd, Nat.reduceMul, Nat.reduceSub, reduceCtorEq, Int.reduceToNat], T, rfl, by omega, hF⟩
end Go.Proofs.Ytdcdldfleeilnaa
