/-
  pick.cuts: the contract of the iterator.
-/
import Derived.Test.YtjekkbpdgnohcaaMg14
import Derived.Test.YtjekkbpdgnohcaaMg13
import Derived.RangeFuncBox
import Derived.RangeFuncLeaves
import Derived.RangeFuncNested
import Derived.Shelf.Abstract
import Derived.WalkKit
import Derived.OwnWalkIn
import Derived.TacticsInMore
import Derived.LoopNIn
import Derived.LoopIn
namespace Go.Proofs.Ytjekkbpdgnohcaa
open Go.RowKit Go.Shelf Go.Dm
set_option linter.unusedSimpArgs false
set_option linter.unnecessarySimpa false
set_option linter.unusedVariables false
set_option linter.defProp false
attribute [local go_sem] Oper.semAt_some
def cutL : Nat → Nat → Nat → List (List Int)
  | 0, _, to => [[(to : Int)]]
  | n + 1, frm, to => (List.range (to - (frm + 1))).flatMap fun q => (cutL n (frm + 1 + q) to).map fun r => ((frm + 1 + q : Nat) : Int) :: r
def yvcs := And.intro @fr_ρ <| And.intro @fr_M <| And.intro @fr_N <| And.intro @frD_some <| And.intro @frD_none <| And.intro @List.length_append.{0} @List.length_cons.{0}
def treeA : DT := (.op ⟨none, some 16, .mov (.t 0)⟩ (.op ⟨none, some 18, .fld (.t 3) 1⟩ (.op ⟨none, some 19, .ld1 (.t 18)⟩ (.alt (.op ⟨none, some 15, .ld1 (.t 2)⟩ (.alt (.op ⟨none, some 17, .callp 57 [.t 16]⟩ (.op ⟨none, some 20, .bsl 1 [.t 19]⟩ (.op ⟨none, some 21, .app (.t 17) (.t 20) 1 8⟩ .done))) (.op ⟨none, some 20, .bsl 1 [.t 19]⟩ (.op ⟨none, some 17, .callp 57 [.t 16]⟩ (.op ⟨none, some 21, .app (.t 17) (.t 20) 1 8⟩ .done))))) (.alt (.op ⟨none, some 17, .callp 57 [.t 16]⟩ (.alt (.op ⟨none, some 15, .ld1 (.t 2)⟩ (.op ⟨none, some 20, .bsl 1 [.t 19]⟩ (.op ⟨none, some 21, .app (.t 17) (.t 20) 1 8⟩ .done))) (.op ⟨none, some 20, .bsl 1 [.t 19]⟩ (.alt (.op ⟨none, some 15, .ld1 (.t 2)⟩ (.op ⟨none, some 21, .app (.t 17) (.t 20) 1 8⟩ .done)) (.op ⟨none, some 21, .app (.t 17) (.t 20) 1 8⟩ (.op ⟨none, some 15, .ld1 (.t 2)⟩ .done)))))) (.op ⟨none, some 20, .bsl 1 [.t 19]⟩ (.alt (.op ⟨none, some 15, .ld1 (.t 2)⟩ (.op ⟨none, some 17, .callp 57 [.t 16]⟩ (.op ⟨none, some 21, .app (.t 17) (.t 20) 1 8⟩ .done))) (.op ⟨none, some 17, .callp 57 [.t 16]⟩ (.alt (.op ⟨none, some 15, .ld1 (.t 2)⟩ (.op ⟨none, some 21, .app (.t 17) (.t 20) 1 8⟩ .done)) (.op ⟨none, some 21, .app (.t 17) (.t 20) 1 8⟩ (.op ⟨none, some 15, .ld1 (.t 2)⟩ .done)))))))))))
def treeB : DT := (.op ⟨none, some 43, .mov (.t 0)⟩ (.op ⟨none, some 45, .mov (.t 9)⟩ (.alt (.op ⟨none, some 42, .ld1 (.t 4)⟩ (.alt (.op ⟨none, some 44, .callp 57 [.t 43]⟩ (.op ⟨none, some 46, .bsl 1 [.t 45]⟩ (.op ⟨none, some 47, .app (.t 44) (.t 46) 1 8⟩ .done))) (.op ⟨none, some 46, .bsl 1 [.t 45]⟩ (.op ⟨none, some 44, .callp 57 [.t 43]⟩ (.op ⟨none, some 47, .app (.t 44) (.t 46) 1 8⟩ .done))))) (.alt (.op ⟨none, some 44, .callp 57 [.t 43]⟩ (.alt (.op ⟨none, some 42, .ld1 (.t 4)⟩ (.op ⟨none, some 46, .bsl 1 [.t 45]⟩ (.op ⟨none, some 47, .app (.t 44) (.t 46) 1 8⟩ .done))) (.op ⟨none, some 46, .bsl 1 [.t 45]⟩ (.alt (.op ⟨none, some 42, .ld1 (.t 4)⟩ (.op ⟨none, some 47, .app (.t 44) (.t 46) 1 8⟩ .done)) (.op ⟨none, some 47, .app (.t 44) (.t 46) 1 8⟩ (.op ⟨none, some 42, .ld1 (.t 4)⟩ .done)))))) (.op ⟨none, some 46, .bsl 1 [.t 45]⟩ (.alt (.op ⟨none, some 42, .ld1 (.t 4)⟩ (.op ⟨none, some 44, .callp 57 [.t 43]⟩ (.op ⟨none, some 47, .app (.t 44) (.t 46) 1 8⟩ .done))) (.op ⟨none, some 44, .callp 57 [.t 43]⟩ (.alt (.op ⟨none, some 42, .ld1 (.t 4)⟩ (.op ⟨none, some 47, .app (.t 44) (.t 46) 1 8⟩ .done)) (.op ⟨none, some 47, .app (.t 44) (.t 46) 1 8⟩ (.op ⟨none, some 42, .ld1 (.t 4)⟩ .done))))))))))
theorem reg_a (h : List Int) (hl : h.length ≤ 1000) (frm to : Nat) (y : Value) (hy : Value.one y = true) :
    vcT Try.prog treeA (cutK (fun τ : Nat => [(15, .v y), (21, .ref τ 1 0 (h.length + 1))]) (fun τ => [(τ, ⟨1, i64s (h ++ [(to : Int)]), true, false, .arr⟩)]) (fun τ => τ < 3) 3) (S.fr [(0, .sl 1 (i64s h)), (2, .ip [.v y] 0), (3, .ip [iv .i64 frm, iv .i64 to] 0)]) := by
  unfold treeA
  repeat' first | ((first | refine Br.dec ?_ ?_ | refine Br.eqi ?_ ?_) <;> intro h <;> try (exfalso; omega)) | (simp (disch := first | omega | (simp only [vlen]; first | done | omega)) only [yvcs, ↓vAq, vBq, ↓reduceIte, Nat.reduceBEq, Nat.reduceEqDiff, Nat.reduceLT, Nat.reduceLeDiff, Nat.reduceAdd, Nat.reduceMul, Nat.reduceSub, reduceCtorEq, Int.reduceToNat]) | (refine Br.mk ?_ ?_ <;> intro h) | (refine BrN.mk (fun h => ?_) ?_) | (refine AltVC.mk ?_ ?_)
  all_goals refine CallP.lend [.sl 1 (i64s h)] (clone_int h (by omega)) (by simp (disch := first | omega | (simp only [vlen]; first | done | omega)) only [yvcs, ↓vAq, vBq, ↓reduceIte, Nat.reduceBEq, Nat.reduceEqDiff, Nat.reduceLT, Nat.reduceLeDiff, Nat.reduceAdd, Nat.reduceMul, Nat.reduceSub, reduceCtorEq, Int.reduceToNat]) ?_
  all_goals (rintro _ _ ⟨rfl, rfl⟩; (repeat' first | ((first | refine Br.dec ?_ ?_ | refine Br.eqi ?_ ?_) <;> intro h <;> try (exfalso; omega)) | (simp (disch := first | omega | (simp only [vlen]; first | done | omega)) only [yvcs, ↓vAq, vBq, ↓reduceIte, Nat.reduceBEq, Nat.reduceEqDiff, Nat.reduceLT, Nat.reduceLeDiff, Nat.reduceAdd, Nat.reduceMul, Nat.reduceSub, reduceCtorEq, Int.reduceToNat]) | (refine Br.mk ?_ ?_ <;> intro h) | (refine BrN.mk (fun h => ?_) ?_) | (refine AltVC.mk ?_ ?_)))
  all_goals first
    | (refine cutK.mk 1 (by simp (disch := first | omega | (simp only [vlen]; first | done | omega)) only [↓vAq, vBq, ↓reduceIte, Nat.reduceBEq, Nat.reduceEqDiff, Nat.reduceLT, Nat.reduceLeDiff, Nat.reduceAdd, Nat.reduceMul, Nat.reduceSub, reduceCtorEq, Int.reduceToNat]) (by omega) ?_; (simp (disch := first | omega | (simp only [vlen]; first | done | omega)) only [Fits_u, Fits_m, Fits_nil, List.length_append, yvcs, ↓vAq, vBq, ↓reduceIte, Nat.reduceBEq, Nat.reduceEqDiff, Nat.reduceLT, Nat.reduceLeDiff, Nat.reduceAdd, Nat.reduceMul, Nat.reduceSub, reduceCtorEq, Int.reduceToNat] <;> (repeat' first | rfl | apply And.intro)); done)
    | (refine cutK.mk 2 (by simp (disch := first | omega | (simp only [vlen]; first | done | omega)) only [↓vAq, vBq, ↓reduceIte, Nat.reduceBEq, Nat.reduceEqDiff, Nat.reduceLT, Nat.reduceLeDiff, Nat.reduceAdd, Nat.reduceMul, Nat.reduceSub, reduceCtorEq, Int.reduceToNat]) (by omega) ?_; (simp (disch := first | omega | (simp only [vlen]; first | done | omega)) only [Fits_u, Fits_m, Fits_nil, List.length_append, yvcs, ↓vAq, vBq, ↓reduceIte, Nat.reduceBEq, Nat.reduceEqDiff, Nat.reduceLT, Nat.reduceLeDiff, Nat.reduceAdd, Nat.reduceMul, Nat.reduceSub, reduceCtorEq, Int.reduceToNat] <;> (repeat' first | rfl | apply And.intro)); done)
theorem reg_b (h : List Int) (hl : h.length ≤ 1000) (e : Nat) (y : Value) (hy : Value.one y = true) :
    vcT Try.prog treeB (cutK (fun τ : Nat => [(42, .v y), (47, .ref τ 1 0 (h.length + 1))]) (fun τ => [(τ, ⟨1, i64s (h ++ [(e : Int)]), true, false, .arr⟩)]) (fun τ => τ < 3) 3) (S.fr [(0, .sl 1 (i64s h)), (4, .ip [.v y] 0), (9, iv .i64 e)]) := by
  unfold treeB
  repeat' first | ((first | refine Br.dec ?_ ?_ | refine Br.eqi ?_ ?_) <;> intro h <;> try (exfalso; omega)) | (simp (disch := first | omega | (simp only [vlen]; first | done | omega)) only [yvcs, ↓vAq, vBq, ↓reduceIte, Nat.reduceBEq, Nat.reduceEqDiff, Nat.reduceLT, Nat.reduceLeDiff, Nat.reduceAdd, Nat.reduceMul, Nat.reduceSub, reduceCtorEq, Int.reduceToNat]) | (refine Br.mk ?_ ?_ <;> intro h) | (refine BrN.mk (fun h => ?_) ?_) | (refine AltVC.mk ?_ ?_)
  all_goals refine CallP.lend [.sl 1 (i64s h)] (clone_int h (by omega)) (by simp (disch := first | omega | (simp only [vlen]; first | done | omega)) only [yvcs, ↓vAq, vBq, ↓reduceIte, Nat.reduceBEq, Nat.reduceEqDiff, Nat.reduceLT, Nat.reduceLeDiff, Nat.reduceAdd, Nat.reduceMul, Nat.reduceSub, reduceCtorEq, Int.reduceToNat]) ?_
  all_goals (rintro _ _ ⟨rfl, rfl⟩; (repeat' first | ((first | refine Br.dec ?_ ?_ | refine Br.eqi ?_ ?_) <;> intro h <;> try (exfalso; omega)) | (simp (disch := first | omega | (simp only [vlen]; first | done | omega)) only [yvcs, ↓vAq, vBq, ↓reduceIte, Nat.reduceBEq, Nat.reduceEqDiff, Nat.reduceLT, Nat.reduceLeDiff, Nat.reduceAdd, Nat.reduceMul, Nat.reduceSub, reduceCtorEq, Int.reduceToNat]) | (refine Br.mk ?_ ?_ <;> intro h) | (refine BrN.mk (fun h => ?_) ?_) | (refine AltVC.mk ?_ ?_)))
  all_goals first
    | (refine cutK.mk 1 (by simp (disch := first | omega | (simp only [vlen]; first | done | omega)) only [↓vAq, vBq, ↓reduceIte, Nat.reduceBEq, Nat.reduceEqDiff, Nat.reduceLT, Nat.reduceLeDiff, Nat.reduceAdd, Nat.reduceMul, Nat.reduceSub, reduceCtorEq, Int.reduceToNat]) (by omega) ?_; (simp (disch := first | omega | (simp only [vlen]; first | done | omega)) only [Fits_u, Fits_m, Fits_nil, List.length_append, yvcs, ↓vAq, vBq, ↓reduceIte, Nat.reduceBEq, Nat.reduceEqDiff, Nat.reduceLT, Nat.reduceLeDiff, Nat.reduceAdd, Nat.reduceMul, Nat.reduceSub, reduceCtorEq, Int.reduceToNat] <;> (repeat' first | rfl | apply And.intro)); done)
    | (refine cutK.mk 2 (by simp (disch := first | omega | (simp only [vlen]; first | done | omega)) only [↓vAq, vBq, ↓reduceIte, Nat.reduceBEq, Nat.reduceEqDiff, Nat.reduceLT, Nat.reduceLeDiff, Nat.reduceAdd, Nat.reduceMul, Nat.reduceSub, reduceCtorEq, Int.reduceToNat]) (by omega) ?_; (simp (disch := first | omega | (simp only [vlen]; first | done | omega)) only [Fits_u, Fits_m, Fits_nil, List.length_append, yvcs, ↓vAq, vBq, ↓reduceIte, Nat.reduceBEq, Nat.reduceEqDiff, Nat.reduceLT, Nat.reduceLeDiff, Nat.reduceAdd, Nat.reduceMul, Nat.reduceSub, reduceCtorEq, Int.reduceToNat] <;> (repeat' first | rfl | apply And.intro)); done)
theorem cut_ip1 {w : World} {A : Nat → Prop} {d : D} {v : Value} (h : CR w A (.ip [d] 0) v) : ∃ b o u, v = .pointer (some ⟨b, o, none⟩) ∧ A b ∧ w.cell? ⟨b, o, none⟩ = some u ∧ CR w A d u := by
  cases h with
  | ip e o b off us hA hc hr =>
    refine ⟨b, off, us 0, by simp, hA, by simpa using hc 0 (by simp), by simpa using hr 0 (by simp)⟩
theorem cut_ip2 {w : World} {A : Nat → Prop} {d e : D} {v : Value} (h : CR w A (.ip [d, e] 0) v) : ∃ b o u x, v = .pointer (some ⟨b, o, none⟩) ∧ A b ∧ w.cell? ⟨b, o, none⟩ = some u ∧ CR w A d u ∧ w.cell? ⟨b, o + 1, none⟩ = some x ∧ CR w A e x := by
  cases h with
  | ip e o b off us hA hc hr =>
    exact ⟨b, off, us 0, us 1, by simp, hA, by simpa using hc 0 (by simp), by simpa using hr 0 (by simp), by simpa using hc 1 (by simp), by simpa using hr 1 (by simp)⟩
abbrev choF : FuncId := 63
theorem reg_out {nt : Nat} {W w' : World} {R : Nat → Prop} {ts : List Nat} {a a' : Act} {s2 : S} {A : Nat → Prop} {β : Nat → Option Nat} {γ : Nat → Option (Nat × List Nat)} (g : GR (Gf nt W R ts a) s2 a' w' A β γ) {sl τ : Nat} {l : List Int} (hl : 0 < l.length) (hs : s2.ρ sl = .ref τ 1 0 l.length) (hM : s2.M τ = some ⟨1, i64s l, true, false, .arr⟩) :
    Below W.heap.size W w' ∧ CR w' (fun b => W.heap.size ≤ b ∧ b < w'.heap.size) (.sl 1 (i64s l)) (a'.tmps.getD sl undef) := by
  have hd := g.slots sl
  rw [hs] at hd
  have hτ : τ < s2.N := by
    generalize a'.tmps.getD sl undef = x at hd
    generalize l.length = n at hd
    cases hd with
    | cl d x h' => cases h'
    | ref => assumption
    | refz => assumption
  refine ⟨g.hr.below.below (fun _ h => h), ?_⟩
  have := new_cr g (fun _ h => h) hM (by simp [Ob.pl, i64s, isV]) hτ hd
  rw [viewO_i64s rfl] at this
  exact this
theorem reg_val {G : Gh} {w' : World} {a' : Act} {s2 : S} {A : Nat → Prop} {β : Nat → Option Nat} {γ : Nat → Option (Nat × List Nat)} (g : GR G s2 a' w' A β γ) {sl : Nat} {y : Value} (hs : s2.ρ sl = .v y) : a'.tmps.getD sl undef = y := by
  have hd := g.slots sl
  rw [hs] at hd
  generalize a'.tmps.getD sl undef = x at hd ⊢
  cases hd with
  | cl d x h => cases h; rfl
theorem kpt_below {Z : Nat → Prop} {W w' : World} (h : Below W.heap.size W w') : Kpt Z W w' := ⟨h.os, h.tape, h.output, h.size, fun b hb _ => h.block b hb, (Same.below h).shp⟩
theorem kpt_trans {Z : Nat → Prop} {a b c : World} (h : Kpt Z a b) (k : Kpt Z b c) : Kpt Z a c := ⟨k.os.trans h.os, k.tape.trans h.tape, k.output.trans h.output, Nat.le_trans h.size k.size, fun x hx hz => (k.blk x (Nat.lt_of_lt_of_le hx h.size) hz).trans (h.blk x hx hz), h.shp.trans k.shp⟩
theorem kpt_weak {Z Z' : Nat → Prop} {a b : World} (h : Kpt Z a b) (hz : ∀ x, Z' x → Z x) : Kpt Z' a b := ⟨h.os, h.tape, h.output, h.size, fun x hx hx' => h.blk x hx (hz x hx'), h.shp⟩
theorem asg_end {ops : Array Oper} {i x y n : Nat} {o : Oper} {Q : Exit → Act → World → Prop} {K : Act → World → Prop} {a : Act} {w : World} {u : Value} (ho : ops[i]? = some o) (hg : o.guard = none) (hop : o.op = .assign (.tmp x) ∧ o.dst = some y) (hs : a.tmps.size = n) (hd : a.defers = []) (hx : x < n) (hy : y < n)
    (hK : ∀ a5 : Act, a5.tmps.getD y undef = u → a5.defers = [] → K a5 w) : wpOpIn (FR none) 0 Try.prog ops Q i K (a.put (some x) u) w := by
  have h1 : ((a.put (some x) u).tmps.getD x undef) = u := by rw [put_get (by omega), if_pos rfl]
  refine value_opIn (u := u) ho hg (fun c e => by rw [hop.1] at e; cases e) ?_ (hK _ ?_ ?_)
  · simp only [execOp, hop.1, Act.eval]
    rw [h1]; rfl
  · rw [hop.2, put_get (by show y < (a.tmps.setIfInBounds x u).size; simp; omega), if_pos rfl]
  · rw [put_def, put_def]; exact hd
theorem not_end {ops : Array Oper} {i x y n : Nat} {o : Oper} {Q : Exit → Act → World → Prop} {K : Act → World → Prop} {a : Act} {w : World} {b : Bool} (ho : ops[i]? = some o) (hg : o.guard = none) (hop : ∃ t, o.op = .unOp .not t (.tmp x) ∧ o.dst = some y) (hs : a.tmps.size = n) (hx : x < n)
    (hK : K ((a.put (some x) (.bool b)).put (some y) (.bool !b)) w) : wpOpIn (FR none) 0 Try.prog ops Q i K (a.put (some x) (.bool b)) w := by
  obtain ⟨t, h1, h2⟩ := hop
  have h3 : ((a.put (some x) (.bool b)).tmps.getD x undef) = .bool b := by rw [put_get (by omega), if_pos rfl]
  refine value_opIn (u := .bool !b) ho hg (fun c e => by rw [h1] at e; cases e) ?_ (by rw [h2]; exact hK)
  simp only [execOp, h1, Act.eval]
  rw [h3]
  cases b <;> rfl
structure CX (w : World) (A : Nat → Prop) (vs : List (List D)) (l0 : Nat) (I : Nat → (Nat → Prop) → World → Prop) (Ix : (Nat → Prop) → World → Prop) : Prop where
  low : ∀ b, A b → b < w.heap.size
  lt : ∀ k O W, I k O W → ∀ b, O b → b < W.heap.size
  st : ∀ k O W W', I k O W → Kpt (fun b => b < w.heap.size ∨ O b) W W' → I k O W'
  yl : ∀ (k : Nat) (O : Nat → Prop) (W : World) (Y : Nat → Prop) (args : Array Value), k < vs.length → I k O W → (∀ b, Y b → b < W.heap.size) → (∀ b, Y b → A b ∨ (w.heap.size ≤ b ∧ ¬ O b)) → args.size = (vs.getD k []).length →
      (∀ i, i < args.size → CR W (fun b => A b ∨ Y b) ((vs.getD k []).getD i .junk) (args.getD i undef)) →
      YieldAt Fence.wide 0 Try.prog l0 args W fun e W' => Kpt (fun b => ¬ O b ∨ A b) W W' ∧
        ((e = .returned (.bool true) ∧ ∃ O', I (k + 1) O' W' ∧ ∀ b, O' b → O b ∨ Y b ∨ W.heap.size ≤ b) ∨
         (e = .returned (.bool false) ∧ ∃ O', Ix O' W' ∧ ∀ b, O' b → O b ∨ Y b ∨ W.heap.size ≤ b))
def CEnd (I : Nat → (Nat → Prop) → World → Prop) (Ix : (Nat → Prop) → World → Prop) (A Pv O : Nat → Prop) (W : World) (k : Nat) (e : Ending) (W' : World) : Prop :=
  Kpt (fun b => A b ∨ Pv b) W W' ∧ ((e = .returned (.bool true) ∧ ∃ O', I k O' W' ∧ ∀ b, O' b → O b ∨ W.heap.size ≤ b) ∨ (e = .returned (.bool false) ∧ ∃ O', Ix O' W' ∧ ∀ b, O' b → O b ∨ W.heap.size ≤ b))
set_option maxRecDepth 100000 in
set_option maxHeartbeats 4000000 in
theorem choose_end {w : World} {A : Nat → Prop} {vs : List (List D)} {l0 : Nat} {I : Nat → (Nat → Prop) → World → Prop} {Ix : (Nat → Prop) → World → Prop} (hx : CX w A vs l0 I Ix) {parts frm to : Nat} (hp : parts ≤ 1000) (ht : to ≤ 1000) {h : List Int} (hh : h.length + 1 = parts) {k : Nat} {O : Nat → Prop} {W : World} {Pv : Nat → Prop} {Bp op By Bo oo : Nat} {v pc : Value} (hk : k < vs.length) (hv : vs.getD k [] = [.sl 1 (i64s (h ++ [(to : Int)]))])
    (hI : I k O W) (hsz : w.heap.size ≤ W.heap.size) (hPv : ∀ b, Pv b → b < W.heap.size ∧ w.heap.size ≤ b ∧ ¬ O b) (hc : CR W (fun b => A b ∨ Pv b) (.sl 1 (i64s h)) v)
    (h1 : A Bp ∨ Pv Bp) (h1' : W.cell? ⟨Bp, op, none⟩ = some (.int .i64 parts)) (h2 : A By ∨ Pv By) (h2' : W.cell? ⟨By, 0, none⟩ = some (.func (.yield l0) #[] #[])) (h3 : A Bo ∨ Pv Bo) (h3' : W.cell? ⟨Bo, oo, none⟩ = some (.int .i64 frm)) (h3'' : W.cell? ⟨Bo, oo + 1, none⟩ = some (.int .i64 to)) :
    CallsIn Fence.wide 0 Try.prog choF #[v, .pointer (some ⟨Bp, op, none⟩), .pointer (some ⟨By, 0, none⟩), .pointer (some ⟨Bo, oo, none⟩), pc] W (CEnd I Ix A Pv O W (k + 1)) := by
  obtain ⟨sp, sc, rfl⟩ : ∃ sp sc, v = .slice sp h.length sc := by
    rcases i64s_cells hc with ⟨rfl, b, c, rfl⟩ | ⟨b, o, c, rfl, _⟩
    · exact ⟨_, _, rfl⟩
    · exact ⟨_, _, rfl⟩
  refine callsIn_of_wp Try.func63 rfl trivial ?_ rfl
  simp only [Try.ntmps63, List.size_toArray, List.length_cons, List.length_nil, Nat.reduceAdd, Nat.reduceSub, Array.replicate_succ, Array.replicate_zero, List.push_toArray, List.append_toArray, List.nil_append, List.cons_append]
  gi_wp2
  rename_i K1 hK1 hdec K2 hK2
  have hlA : ∀ b, (A b ∨ Pv b) → b < W.heap.size := fun b hb => hb.elim (fun h => Nat.lt_of_lt_of_le (hx.low b h) hsz) fun h => (hPv b h).1
  refine yield_region (m := 7) (nt := 50) (l := [⟨none, some 15, .ld1 (.t 2)⟩, ⟨none, some 16, .mov (.t 0)⟩, ⟨none, some 17, .call 57 [.t 16]⟩, ⟨none, some 18, .fld (.t 3) 1⟩, ⟨none, some 19, .ld1 (.t 18)⟩, ⟨none, some 20, .bsl 1 [.t 19]⟩, ⟨none, some 21, .app (.t 17) (.t 20) 1 8⟩])
    (ts := [15, 16, 17, 18, 19, 20, 21]) mixed (by kernel_rfl) (by kernel_rfl) (by rfl) (by rfl) (by rw [show treeT _ _ = treeA by kernel_rfl]; exact reg_a h (by omega) frm to (.func (.yield l0) #[] #[]) rfl) (R := fun b => A b ∨ Pv b) hlA rfl rfl ?_ ?_
  · intro p hp'
    simp only [List.mem_cons, List.not_mem_nil, or_false] at hp'
    rcases hp' with rfl | rfl | rfl
    · exact hc
    · exact .ip _ _ By 0 (fun _ => .func (.yield l0) #[] #[]) h2 (fun j hj => by
        have : j = 0 := by simpa using hj
        subst this; exact h2') (fun j hj => by
        have : j = 0 := by simpa using hj
        subst this; exact .v _)
    · exact .ip _ _ Bo oo (fun j => if j = 0 then .int .i64 frm else .int .i64 to) h3 (fun j hj => by
        have : j = 0 ∨ j = 1 := by simp at hj; omega
        rcases this with rfl | rfl
        · exact h3'
        · exact h3'') (fun j hj => by
        have : j = 0 ∨ j = 1 := by simp at hj; omega
        rcases this with rfl | rfl
        · exact .v _
        · exact .v _)
  · intro τ f w' s2 A2 β γ hτ g hd4 hfit
    have hf15 := hfit.1 (15, .v (.func (.yield l0) #[] #[])) (by simp)
    have hf21 := hfit.1 (21, .ref τ 1 0 (h.length + 1)) (by simp)
    have hfM := hfit.2 (τ, ⟨1, i64s (h ++ [(to : Int)]), true, false, .arr⟩) (by simp)
    have hll : (h ++ [(to : Int)]).length = h.length + 1 := by simp
    obtain ⟨hbel, hcr⟩ := reg_out g (l := h ++ [(to : Int)]) (by omega) (by rw [hll]; exact hf21) hfM
    have hy15 := reg_val g hf15
    have hs4 := g.size
    generalize putF f [15, 16, 17, 18, 19, 20, 21] _ = a4 at g hs4 hd4 hy15 hcr ⊢
    have hO := hx.lt k O W hI
    have hI' := hx.st k O W w' hI (kpt_below hbel)
    refine yield_opIn rfl rfl rfl hy15 (hx.yl k O w' (fun b => W.heap.size ≤ b ∧ b < w'.heap.size) _ hk hI' (fun b h => h.2) (fun b h => .inr ⟨Nat.le_trans hsz h.1, fun h' => by have := hO b h'; omega⟩) (by rw [hv]; rfl) (fun i hi => by
      have : i = 0 := by simpa using hi
      subst this
      rw [hv]
      exact hcr.mono (fun _ _ => rfl) (fun b h => .inr h))) ?_
    rintro e W3 ⟨hk3, he⟩
    have hkeep : Kpt (fun b => A b ∨ Pv b) W W3 := kpt_trans (kpt_below hbel) (kpt_weak hk3 fun b h => h.elim (fun h => .inr h) fun h => .inl (hPv b h).2.2)
    rcases he with ⟨rfl, O', hI2, hO2⟩ | ⟨rfl, O', hI2, hO2⟩
    · refine ⟨_, rfl, asg_end (n := 50) rfl rfl ⟨rfl, rfl⟩ hs4 hd4 (by decide) (by decide) (fun a5 e1 e2 => hK2 _ _ (wpIn_ret ⟨e2, _, results_tmp rfl _ _ _, ?_⟩))⟩
      rw [e1]
      refine ⟨hkeep, .inl ⟨rfl, O', hI2, fun b hb => ?_⟩⟩
      rcases hO2 b hb with h' | h' | h'
      · exact .inl h'
      · exact .inr h'.1
      · exact .inr (Nat.le_trans hbel.size h')
    · refine ⟨_, rfl, asg_end (n := 50) rfl rfl ⟨rfl, rfl⟩ hs4 hd4 (by decide) (by decide) (fun a5 e1 e2 => hK2 _ _ (wpIn_ret ⟨e2, _, results_tmp rfl _ _ _, ?_⟩))⟩
      rw [e1]
      refine ⟨hkeep, .inr ⟨rfl, O', hI2, fun b hb => ?_⟩⟩
      rcases hO2 b hb with h' | h' | h'
      · exact .inl h'
      · exact .inr h'.1
      · exact .inr (Nat.le_trans hbel.size h')
def cutP (n p to q : Nat) : List (List Int) := (List.range q).flatMap fun j => (cutL n (p + 1 + j) to).map fun r => ((p + 1 + j : Nat) : Int) :: r
theorem cutL_succ {n p to : Nat} : cutL (n + 1) p to = cutP n p to (to - (p + 1)) := rfl
theorem cutP_succ {n p to q : Nat} : cutP n p to (q + 1) = cutP n p to q ++ (cutL n (p + 1 + q) to).map fun r => ((p + 1 + q : Nat) : Int) :: r := by
  unfold cutP
  rw [List.range_succ, List.flatMap_append]; simp
theorem cutP_pre {n p to q : Nat} : ∀ (j : Nat), ∃ r, cutP n p to (q + j) = cutP n p to q ++ r
  | 0 => ⟨[], by simp⟩
  | j + 1 => by
    obtain ⟨r, hr⟩ := cutP_pre (n := n) (p := p) (to := to) (q := q) j
    exact ⟨r ++ (cutL n (p + 1 + (q + j)) to).map fun x => ((p + 1 + (q + j) : Nat) : Int) :: x, by rw [show q + (j + 1) = q + j + 1 by omega, cutP_succ, hr, List.append_assoc]⟩
theorem cut_at {n p to q i : Nat} (hq : p + 1 + q < to) (hi : i < (cutL n (p + 1 + q) to).length) : (cutP n p to q).length + i < (cutL (n + 1) p to).length ∧ (cutL (n + 1) p to).getD ((cutP n p to q).length + i) [] = ((p + 1 + q : Nat) : Int) :: (cutL n (p + 1 + q) to).getD i [] := by
  obtain ⟨r, hr⟩ := cutP_pre (n := n) (p := p) (to := to) (q := q + 1) (to - (p + 1) - (q + 1))
  rw [show q + 1 + (to - (p + 1) - (q + 1)) = to - (p + 1) by omega, cutP_succ] at hr
  rw [cutL_succ, hr]
  refine ⟨by simp; omega, ?_⟩
  simp only [List.getD_eq_getElem?_getD, List.append_assoc]
  rw [List.getElem?_append_right (by omega), Nat.add_sub_cancel_left, List.getElem?_append_left (by simpa using hi), List.getElem?_map, List.getElem?_eq_getElem hi]
  rfl
theorem kpt_refl {Z : Nat → Prop} {W : World} : Kpt Z W W := ⟨rfl, rfl, rfl, Nat.le_refl _, fun _ _ _ => rfl, Shp.refl _⟩
def LoopRel (I : Nat → (Nat → Prop) → World → Prop) (A Pv O : Nat → Prop) (W : World) (d p to k : Nat) (e : Value) (wr : World) : Prop :=
  ∃ q : Nat, e = .int .i64 ((p : Int) + 1 + q) ∧ q ≤ to - (p + 1) ∧ (∃ O', I (k + (cutP d p to q).length) O' wr ∧ ∀ b, O' b → O b ∨ W.heap.size ≤ b) ∧ Kpt (fun b => A b ∨ Pv b) W wr
set_option maxRecDepth 100000 in
set_option maxHeartbeats 8000000 in
theorem choose_nil {w : World} {A : Nat → Prop} {vs : List (List D)} {l0 : Nat} {I : Nat → (Nat → Prop) → World → Prop} {Ix : (Nat → Prop) → World → Prop} (hx : CX w A vs l0 I Ix) {parts p to : Nat} (hp : parts ≤ 1000) (ht : to ≤ 1000) {Bp op By Bo oo Bc d k : Nat} {O : Nat → Prop} {W : World} {Pv : Nat → Prop} {sp : Option Addr} {sc : Nat} (hp1 : p ≤ 1000) (hh : 0 + (d + 1) + 1 = parts)
    (hI : I k O W) (hc : CR W (fun b => A b ∨ Pv b) (.sl 1 (i64s [])) (.slice sp 0 sc)) (hlA : ∀ b, (A b ∨ Pv b) → b < W.heap.size)
    (hcl : ∀ {B : Nat} {o : Nat} {u : Value} {wr : World}, Kpt (fun b => A b ∨ Pv b) W wr → (A B ∨ Pv B) → W.cell? ⟨B, o, none⟩ = some u → wr.cell? ⟨B, o, none⟩ = some u)
    (h1 : A Bp ∨ Pv Bp) (h1' : W.cell? ⟨Bp, op, none⟩ = some (.int .i64 parts)) (h3 : A Bo ∨ Pv Bo) (h3' : W.cell? ⟨Bo, oo, none⟩ = some (.int .i64 p)) (h3'' : W.cell? ⟨Bo, oo + 1, none⟩ = some (.int .i64 to))
    (h4 : A Bc ∨ Pv Bc) (h4' : W.cell? ⟨Bc, 0, none⟩ = some (.func (.func choF) #[] #[.pointer (some ⟨Bp, op, none⟩), .pointer (some ⟨By, 0, none⟩), .pointer (some ⟨Bo, oo, none⟩), .pointer (some ⟨Bc, 0, none⟩)]))
    (hstep : ∀ (q : Nat) (O' : Nat → Prop) (wr w' : World) (Y : Nat → Prop) (v : Value), p + 1 + q < to → I (k + (cutP d p to q).length) O' wr → (∀ b, O' b → O b ∨ W.heap.size ≤ b) → Kpt (fun b => A b ∨ Pv b) W wr → Below wr.heap.size wr w' → CR w' (fun b => wr.heap.size ≤ b ∧ b < w'.heap.size) (.sl 1 (i64s ([] ++ [((p + 1 + q : Nat) : Int)]))) v →
      CallsIn Fence.wide 0 Try.prog choF #[v, .pointer (some ⟨Bp, op, none⟩), .pointer (some ⟨By, 0, none⟩), .pointer (some ⟨Bo, oo, none⟩), .pointer (some ⟨Bc, 0, none⟩)] w' fun e W3 => (e = .returned (.bool true) ∧ LoopRel I A Pv O W d p to k (.int .i64 ((p : Int) + 1 + q + 1)) W3) ∨ (e = .returned (.bool false) ∧ CEnd I Ix A Pv O W (k + (cutL (d + 1) p to).length) (.returned (.bool false)) W3)) :
    CallsIn Fence.wide 0 Try.prog choF #[.slice sp 0 sc, .pointer (some ⟨Bp, op, none⟩), .pointer (some ⟨By, 0, none⟩), .pointer (some ⟨Bo, oo, none⟩), .pointer (some ⟨Bc, 0, none⟩)] W (CEnd I Ix A Pv O W (k + (cutL (d + 1) p to).length)) := by
  refine callsIn_of_wp Try.func63 rfl trivial ?_ rfl
  simp only [Try.ntmps63, List.size_toArray, List.length_cons, List.length_nil, Nat.reduceAdd, Nat.reduceSub, Array.replicate_succ, Array.replicate_zero, List.push_toArray, List.append_toArray, List.nil_append, List.cons_append]
  gi_wp2
  gi_loopw [9] (fun e wr => LoopRel I A Pv O W d p to k e wr) (fun e _ => to - (intOf e).toNat)
  case atStart => exact ⟨0, by simp, Nat.zero_le _, ⟨O, by simpa [cutP] using hI, fun b h => .inl h⟩, kpt_refl⟩
  case round =>
    obtain ⟨q, rfl, hq, ⟨O', hI', hO'⟩, hkp⟩ := hrel
    have g3' := hcl hkp h3 h3''
    have g4' := hcl hkp h4 h4'
    have hlr : ∀ b, (A b ∨ Pv b) → b < wr.heap.size := fun b hb => Nat.lt_of_lt_of_le (hlA b hb) hkp.size
    have hck : CR wr (fun b => A b ∨ Pv b) (.sl 1 (i64s [])) (.slice sp 0 sc) := hc.mono (fun b hb => hkp.blk b (hlA b hb) hb) (fun _ h => h)
    by_cases hlt : p + 1 + q < to
    · gi_wp2
      refine yield_region (m := 6) (nt := 50) (l := [⟨none, some 42, .ld1 (.t 4)⟩, ⟨none, some 43, .mov (.t 0)⟩, ⟨none, some 44, .call 57 [.t 43]⟩, ⟨none, some 45, .mov (.t 9)⟩, ⟨none, some 46, .bsl 1 [.t 45]⟩, ⟨none, some 47, .app (.t 44) (.t 46) 1 8⟩])
        (ts := [42, 43, 44, 45, 46, 47]) mixed (by kernel_rfl) (by kernel_rfl) (by rfl) (by rfl) (by rw [show treeT _ _ = treeB by kernel_rfl]; exact reg_b [] (by simp) (p + 1 + q) (.func (.func choF) #[] #[.pointer (some ⟨Bp, op, none⟩), .pointer (some ⟨By, 0, none⟩), .pointer (some ⟨Bo, oo, none⟩), .pointer (some ⟨Bc, 0, none⟩)]) rfl) (R := fun b => A b ∨ Pv b) hlr rfl rfl ?_ ?_
      · intro p' hp'
        simp only [List.mem_cons, List.not_mem_nil, or_false] at hp'
        rcases hp' with rfl | rfl | rfl
        · exact hck
        · exact .ip _ _ Bc 0 (fun _ => .func (.func choF) #[] #[.pointer (some ⟨Bp, op, none⟩), .pointer (some ⟨By, 0, none⟩), .pointer (some ⟨Bo, oo, none⟩), .pointer (some ⟨Bc, 0, none⟩)]) h4 (fun j hj => by
            have : j = 0 := by simpa using hj
            subst this; exact g4') (fun j hj => by
            have : j = 0 := by simpa using hj
            subst this; exact .v _)
        · have e9 : ((p : Int) + 1 + q) = ((p + 1 + q : Nat) : Int) := by omega
          show CR wr _ (.v (.int .i64 ((p + 1 + q : Nat) : Int))) (.int .i64 ((p : Int) + 1 + q))
          rw [e9]; exact .v _
      · intro τ f w' s2 A2 β γ hτ g hd4 hfit
        have hf42 := hfit.1 (42, .v (.func (.func choF) #[] #[.pointer (some ⟨Bp, op, none⟩), .pointer (some ⟨By, 0, none⟩), .pointer (some ⟨Bo, oo, none⟩), .pointer (some ⟨Bc, 0, none⟩)])) (by simp)
        have hf47 := hfit.1 (47, .ref τ 1 0 (([] : List Int).length + 1)) (by simp)
        have hfM := hfit.2 (τ, ⟨1, i64s ([] ++ [((p + 1 + q : Nat) : Int)]), true, false, .arr⟩) (by simp)
        have hll : ([] ++ [((p + 1 + q : Nat) : Int)]).length = ([] : List Int).length + 1 := by simp
        obtain ⟨hbel, hcr⟩ := reg_out g (l := [] ++ [((p + 1 + q : Nat) : Int)]) (by simp) (by rw [hll]; exact hf47) hfM
        have hy42 := reg_val g hf42
        have hC := hstep q O' wr w' (fun _ => False) _ hlt hI' hO' hkp hbel hcr
        have hs4 := g.size
        refine callv_opIn rfl rfl rfl hy42 (callFunc_ok Try.func63 rfl (by decide)) hC ?_
        rintro e W3 (⟨rfl, hrel3⟩ | ⟨rfl, hend⟩)
        · refine ⟨_, rfl, not_end (n := 50) (b := true) rfl rfl ⟨_, rfl, rfl⟩ hs4 (by decide) ?_⟩
          simp only [putF, List.foldl_cons, List.foldl_nil, Bool.not_true]
          clear hcr hd4 hy42 hs4 hbel hfit g hC hstep hf42 hf47 hfM
          generalize f 42 = x42
          generalize f 43 = x43
          generalize f 44 = x44
          generalize f 45 = x45
          generalize f 46 = x46
          generalize f 47 = x47
          rename_i K1 hK1 K2 hK2
          refine hK2 _ _ ?_
          simp only [Act.put, List.setIfInBounds_toArray, List.set_cons_succ, List.set_cons_zero]
          gi_wp2
          go_roundw
          case rel => exact hrel3
          case measure => simp [intOf]; omega
        · refine ⟨_, rfl, not_end (n := 50) (b := false) rfl rfl ⟨_, rfl, rfl⟩ hs4 (by decide) ?_⟩
          simp only [putF, List.foldl_cons, List.foldl_nil, Bool.not_false]
          clear hcr hd4 hy42 hs4 hbel hfit g hC hstep hf42 hf47 hfM
          generalize f 42 = x42
          generalize f 43 = x43
          generalize f 44 = x44
          generalize f 45 = x45
          generalize f 46 = x46
          generalize f 47 = x47
          rename_i K1 hK1 K2 hK2
          refine hK2 _ _ ?_
          simp only [Act.put, List.setIfInBounds_toArray, List.set_cons_succ, List.set_cons_zero]
          gi_wp2
          go_ret
          exact hend
    · gi_wp2
      go_ret
      refine ⟨hkp, .inl ⟨rfl, O', ?_, hO'⟩⟩
      have : q = to - (p + 1) := by omega
      subst this
      exact hI'
set_option maxRecDepth 100000 in
set_option maxHeartbeats 8000000 in
theorem choose_cons {w : World} {A : Nat → Prop} {vs : List (List D)} {l0 : Nat} {I : Nat → (Nat → Prop) → World → Prop} {Ix : (Nat → Prop) → World → Prop} (hx : CX w A vs l0 I Ix) {parts p to : Nat} (hp : parts ≤ 1000) (ht : to ≤ 1000) {Bp op By Bo oo Bc d k : Nat} {O : Nat → Prop} {W : World} {Pv : Nat → Prop} {bs os sc m frm : Nat} {h : List Int} (hm : h.length = m + 1) (hp1 : p ≤ 1000) (hh : m + 1 + (d + 1) + 1 = parts) (hcell : W.cell? ⟨bs, os + m, none⟩ = some (.int .i64 p))
    (hI : I k O W) (hc : CR W (fun b => A b ∨ Pv b) (.sl 1 (i64s h)) (.slice (some ⟨bs, os, none⟩) (m + 1) sc)) (hlA : ∀ b, (A b ∨ Pv b) → b < W.heap.size)
    (hcl : ∀ {B : Nat} {o : Nat} {u : Value} {wr : World}, Kpt (fun b => A b ∨ Pv b) W wr → (A B ∨ Pv B) → W.cell? ⟨B, o, none⟩ = some u → wr.cell? ⟨B, o, none⟩ = some u)
    (h1 : A Bp ∨ Pv Bp) (h1' : W.cell? ⟨Bp, op, none⟩ = some (.int .i64 parts)) (h3 : A Bo ∨ Pv Bo) (h3' : W.cell? ⟨Bo, oo, none⟩ = some (.int .i64 frm)) (h3'' : W.cell? ⟨Bo, oo + 1, none⟩ = some (.int .i64 to))
    (h4 : A Bc ∨ Pv Bc) (h4' : W.cell? ⟨Bc, 0, none⟩ = some (.func (.func choF) #[] #[.pointer (some ⟨Bp, op, none⟩), .pointer (some ⟨By, 0, none⟩), .pointer (some ⟨Bo, oo, none⟩), .pointer (some ⟨Bc, 0, none⟩)]))
    (hstep : ∀ (q : Nat) (O' : Nat → Prop) (wr w' : World) (Y : Nat → Prop) (v : Value), p + 1 + q < to → I (k + (cutP d p to q).length) O' wr → (∀ b, O' b → O b ∨ W.heap.size ≤ b) → Kpt (fun b => A b ∨ Pv b) W wr → Below wr.heap.size wr w' → CR w' (fun b => wr.heap.size ≤ b ∧ b < w'.heap.size) (.sl 1 (i64s (h ++ [((p + 1 + q : Nat) : Int)]))) v →
      CallsIn Fence.wide 0 Try.prog choF #[v, .pointer (some ⟨Bp, op, none⟩), .pointer (some ⟨By, 0, none⟩), .pointer (some ⟨Bo, oo, none⟩), .pointer (some ⟨Bc, 0, none⟩)] w' fun e W3 => (e = .returned (.bool true) ∧ LoopRel I A Pv O W d p to k (.int .i64 ((p : Int) + 1 + q + 1)) W3) ∨ (e = .returned (.bool false) ∧ CEnd I Ix A Pv O W (k + (cutL (d + 1) p to).length) (.returned (.bool false)) W3)) :
    CallsIn Fence.wide 0 Try.prog choF #[.slice (some ⟨bs, os, none⟩) (m + 1) sc, .pointer (some ⟨Bp, op, none⟩), .pointer (some ⟨By, 0, none⟩), .pointer (some ⟨Bo, oo, none⟩), .pointer (some ⟨Bc, 0, none⟩)] W (CEnd I Ix A Pv O W (k + (cutL (d + 1) p to).length)) := by
  refine callsIn_of_wp Try.func63 rfl trivial ?_ rfl
  simp only [Try.ntmps63, List.size_toArray, List.length_cons, List.length_nil, Nat.reduceAdd, Nat.reduceSub, Array.replicate_succ, Array.replicate_zero, List.push_toArray, List.append_toArray, List.nil_append, List.cons_append]
  have hi1 : (0 : Int) ≤ ((m + 1 : Nat) : Int) - 1 := by omega
  have hi2 : ((m + 1 : Nat) : Int) - 1 < ((m + 1 : Nat) : Int) := by omega
  have hi3 : (((m + 1 : Nat) : Int) - 1).toNat = m := by omega
  have hi4 : (0 : Int) < ((m + 1 : Nat) : Int) := by omega
  gi_wp2
  gi_loopw [9] (fun e wr => LoopRel I A Pv O W d p to k e wr) (fun e _ => to - (intOf e).toNat)
  case atStart => exact ⟨0, by simp, Nat.zero_le _, ⟨O, by simpa [cutP] using hI, fun b h => .inl h⟩, kpt_refl⟩
  case round =>
    obtain ⟨q, rfl, hq, ⟨O', hI', hO'⟩, hkp⟩ := hrel
    have g3' := hcl hkp h3 h3''
    have g4' := hcl hkp h4 h4'
    have hlr : ∀ b, (A b ∨ Pv b) → b < wr.heap.size := fun b hb => Nat.lt_of_lt_of_le (hlA b hb) hkp.size
    have hck : CR wr (fun b => A b ∨ Pv b) (.sl 1 (i64s h)) (.slice (some ⟨bs, os, none⟩) (m + 1) sc) := hc.mono (fun b hb => hkp.blk b (hlA b hb) hb) (fun _ h => h)
    by_cases hlt : p + 1 + q < to
    · gi_wp2
      refine yield_region (m := 6) (nt := 50) (l := [⟨none, some 42, .ld1 (.t 4)⟩, ⟨none, some 43, .mov (.t 0)⟩, ⟨none, some 44, .call 57 [.t 43]⟩, ⟨none, some 45, .mov (.t 9)⟩, ⟨none, some 46, .bsl 1 [.t 45]⟩, ⟨none, some 47, .app (.t 44) (.t 46) 1 8⟩])
        (ts := [42, 43, 44, 45, 46, 47]) mixed (by kernel_rfl) (by kernel_rfl) (by rfl) (by rfl) (by rw [show treeT _ _ = treeB by kernel_rfl]; exact reg_b h (by omega) (p + 1 + q) (.func (.func choF) #[] #[.pointer (some ⟨Bp, op, none⟩), .pointer (some ⟨By, 0, none⟩), .pointer (some ⟨Bo, oo, none⟩), .pointer (some ⟨Bc, 0, none⟩)]) rfl) (R := fun b => A b ∨ Pv b) hlr rfl rfl ?_ ?_
      · intro p' hp'
        simp only [List.mem_cons, List.not_mem_nil, or_false] at hp'
        rcases hp' with rfl | rfl | rfl
        · exact hck
        · exact .ip _ _ Bc 0 (fun _ => .func (.func choF) #[] #[.pointer (some ⟨Bp, op, none⟩), .pointer (some ⟨By, 0, none⟩), .pointer (some ⟨Bo, oo, none⟩), .pointer (some ⟨Bc, 0, none⟩)]) h4 (fun j hj => by
            have : j = 0 := by simpa using hj
            subst this; exact g4') (fun j hj => by
            have : j = 0 := by simpa using hj
            subst this; exact .v _)
        · have e9 : ((p : Int) + 1 + q) = ((p + 1 + q : Nat) : Int) := by omega
          show CR wr _ (.v (.int .i64 ((p + 1 + q : Nat) : Int))) (.int .i64 ((p : Int) + 1 + q))
          rw [e9]; exact .v _
      · intro τ f w' s2 A2 β γ hτ g hd4 hfit
        have hf42 := hfit.1 (42, .v (.func (.func choF) #[] #[.pointer (some ⟨Bp, op, none⟩), .pointer (some ⟨By, 0, none⟩), .pointer (some ⟨Bo, oo, none⟩), .pointer (some ⟨Bc, 0, none⟩)])) (by simp)
        have hf47 := hfit.1 (47, .ref τ 1 0 (h.length + 1)) (by simp)
        have hfM := hfit.2 (τ, ⟨1, i64s (h ++ [((p + 1 + q : Nat) : Int)]), true, false, .arr⟩) (by simp)
        have hll : (h ++ [((p + 1 + q : Nat) : Int)]).length = h.length + 1 := by simp
        obtain ⟨hbel, hcr⟩ := reg_out g (l := h ++ [((p + 1 + q : Nat) : Int)]) (by simp) (by rw [hll]; exact hf47) hfM
        have hy42 := reg_val g hf42
        have hC := hstep q O' wr w' (fun _ => False) _ hlt hI' hO' hkp hbel hcr
        have hs4 := g.size
        refine callv_opIn rfl rfl rfl hy42 (callFunc_ok Try.func63 rfl (by decide)) hC ?_
        rintro e W3 (⟨rfl, hrel3⟩ | ⟨rfl, hend⟩)
        · refine ⟨_, rfl, not_end (n := 50) (b := true) rfl rfl ⟨_, rfl, rfl⟩ hs4 (by decide) ?_⟩
          simp only [putF, List.foldl_cons, List.foldl_nil, Bool.not_true]
          clear hcr hd4 hy42 hs4 hbel hfit g hC hstep hf42 hf47 hfM
          generalize f 42 = x42
          generalize f 43 = x43
          generalize f 44 = x44
          generalize f 45 = x45
          generalize f 46 = x46
          generalize f 47 = x47
          rename_i K1 hK1 K2 hK2
          refine hK2 _ _ ?_
          simp only [Act.put, List.setIfInBounds_toArray, List.set_cons_succ, List.set_cons_zero]
          gi_wp2
          go_roundw
          case rel => exact hrel3
          case measure => simp [intOf]; omega
        · refine ⟨_, rfl, not_end (n := 50) (b := false) rfl rfl ⟨_, rfl, rfl⟩ hs4 (by decide) ?_⟩
          simp only [putF, List.foldl_cons, List.foldl_nil, Bool.not_false]
          clear hcr hd4 hy42 hs4 hbel hfit g hC hstep hf42 hf47 hfM
          generalize f 42 = x42
          generalize f 43 = x43
          generalize f 44 = x44
          generalize f 45 = x45
          generalize f 46 = x46
          generalize f 47 = x47
          rename_i K1 hK1 K2 hK2
          refine hK2 _ _ ?_
          simp only [Act.put, List.setIfInBounds_toArray, List.set_cons_succ, List.set_cons_zero]
          gi_wp2
          go_ret
          exact hend
    · gi_wp2
      go_ret
      refine ⟨hkp, .inl ⟨rfl, O', ?_, hO'⟩⟩
      have : q = to - (p + 1) := by omega
      subst this
      exact hI'
set_option maxRecDepth 100000 in
set_option maxHeartbeats 8000000 in
theorem choose_in {w : World} {A : Nat → Prop} {vs : List (List D)} {l0 : Nat} {I : Nat → (Nat → Prop) → World → Prop} {Ix : (Nat → Prop) → World → Prop} (hx : CX w A vs l0 I Ix) {parts frm to : Nat} (hp : parts ≤ 1000) (ht : to ≤ 1000) {Bp op By Bo oo Bc : Nat} :
    ∀ (d : Nat) (h : List Int) (p : Nat), h.length + d + 1 = parts → p ≤ 1000 → ((h = [] ∧ p = frm) ∨ (h ≠ [] ∧ h.getD (h.length - 1) 0 = p)) → ∀ (k : Nat) (O : Nat → Prop) (W : World) (Pv : Nat → Prop) (v : Value), k + (cutL d p to).length ≤ vs.length →
    (∀ i, i < (cutL d p to).length → vs.getD (k + i) [] = [.sl 1 (i64s (h ++ (cutL d p to).getD i []))]) → I k O W → w.heap.size ≤ W.heap.size → (∀ b, Pv b → b < W.heap.size ∧ w.heap.size ≤ b ∧ ¬ O b) → CR W (fun b => A b ∨ Pv b) (.sl 1 (i64s h)) v →
    (A Bp ∨ Pv Bp) → W.cell? ⟨Bp, op, none⟩ = some (.int .i64 parts) → (A By ∨ Pv By) → W.cell? ⟨By, 0, none⟩ = some (.func (.yield l0) #[] #[]) → (A Bo ∨ Pv Bo) → W.cell? ⟨Bo, oo, none⟩ = some (.int .i64 frm) → W.cell? ⟨Bo, oo + 1, none⟩ = some (.int .i64 to) →
    (A Bc ∨ Pv Bc) → W.cell? ⟨Bc, 0, none⟩ = some (.func (.func choF) #[] #[.pointer (some ⟨Bp, op, none⟩), .pointer (some ⟨By, 0, none⟩), .pointer (some ⟨Bo, oo, none⟩), .pointer (some ⟨Bc, 0, none⟩)]) →
    CallsIn Fence.wide 0 Try.prog choF #[v, .pointer (some ⟨Bp, op, none⟩), .pointer (some ⟨By, 0, none⟩), .pointer (some ⟨Bo, oo, none⟩), .pointer (some ⟨Bc, 0, none⟩)] W (CEnd I Ix A Pv O W (k + (cutL d p to).length))
  | 0, h, p, hh, hp1, hp0, k, O, W, Pv, v, hk, hv, hI, hsz, hPv, hc, h1, h1', h2, h2', h3, h3', h3'', h4, h4' => by
    have e : (cutL 0 p to).length = 1 := rfl
    rw [e] at hk hv ⊢
    exact choose_end hx hp ht (by omega) (by omega) (by simpa [cutL] using hv 0 (by omega)) hI hsz hPv hc h1 h1' h2 h2' h3 h3' h3''
  | d + 1, h, p, hh, hp1, hp0, k, O, W, Pv, v, hk, hv, hI, hsz, hPv, hc, h1, h1', h2, h2', h3, h3', h3'', h4, h4' => by
    have ih := choose_in hx hp ht (frm := frm) (Bp := Bp) (op := op) (By := By) (Bo := Bo) (oo := oo) (Bc := Bc) d
    have hlA : ∀ b, (A b ∨ Pv b) → b < W.heap.size := fun b hb => hb.elim (fun h => Nat.lt_of_lt_of_le (hx.low b h) hsz) fun h => (hPv b h).1
    have hcl : ∀ {B : Nat} {o : Nat} {u : Value} {wr : World}, Kpt (fun b => A b ∨ Pv b) W wr → (A B ∨ Pv B) → W.cell? ⟨B, o, none⟩ = some u → wr.cell? ⟨B, o, none⟩ = some u := fun {B o u wr} hk hB hc => by
      rw [World.cell?_of_block (w := W) (hk.blk B (hlA B hB) hB)]; exact hc
    have hI0 := hx.lt k O W hI
    have hstep : ∀ (q : Nat) (O' : Nat → Prop) (wr w' : World) (Y : Nat → Prop) (v : Value), p + 1 + q < to → I (k + (cutP d p to q).length) O' wr → (∀ b, O' b → O b ∨ W.heap.size ≤ b) → Kpt (fun b => A b ∨ Pv b) W wr → Below wr.heap.size wr w' → CR w' (fun b => wr.heap.size ≤ b ∧ b < w'.heap.size) (.sl 1 (i64s (h ++ [((p + 1 + q : Nat) : Int)]))) v →
        CallsIn Fence.wide 0 Try.prog choF #[v, .pointer (some ⟨Bp, op, none⟩), .pointer (some ⟨By, 0, none⟩), .pointer (some ⟨Bo, oo, none⟩), .pointer (some ⟨Bc, 0, none⟩)] w' fun e W3 => (e = .returned (.bool true) ∧ LoopRel I A Pv O W d p to k (.int .i64 ((p : Int) + 1 + q + 1)) W3) ∨ (e = .returned (.bool false) ∧ CEnd I Ix A Pv O W (k + (cutL (d + 1) p to).length) (.returned (.bool false)) W3) := by
      intro q O' wr w' _ v' hq hI' hO' hkp hbel hcr
      have hOl := hx.lt _ _ _ hI'
      have hkp' : Kpt (fun b => A b ∨ Pv b) W w' := kpt_trans hkp (kpt_below hbel)
      have hcut : (cutP d p to q).length + (cutL d (p + 1 + q) to).length ≤ (cutL (d + 1) p to).length := by
        obtain ⟨r, hr⟩ := cutP_pre (n := d) (p := p) (to := to) (q := q + 1) (to - (p + 1) - (q + 1))
        rw [show q + 1 + (to - (p + 1) - (q + 1)) = to - (p + 1) by omega, cutP_succ] at hr
        rw [cutL_succ, hr]; simp
      have up : ∀ {B : Nat}, (A B ∨ Pv B) → (A B ∨ (Pv B ∨ (wr.heap.size ≤ B ∧ B < w'.heap.size))) := fun h => h.imp (fun h => h) .inl
      refine (ih (h ++ [((p + 1 + q : Nat) : Int)]) (p + 1 + q) (by simp; omega) (by omega) (.inr ⟨by simp, by simp [List.getD]⟩) (k + (cutP d p to q).length) O' w' (fun b => Pv b ∨ (wr.heap.size ≤ b ∧ b < w'.heap.size)) v' (by omega) (fun i hi => ?_) (hx.st _ _ _ _ hI' (kpt_below hbel)) (Nat.le_trans hsz hkp'.size) (fun b hb => ?_) (hcr.mono (fun _ _ => rfl) (fun b h => .inr (.inr h)))
        (up h1) (hcl hkp' h1 h1') (up h2) (hcl hkp' h2 h2') (up h3) (hcl hkp' h3 h3') (hcl hkp' h3 h3'') (up h4) (hcl hkp' h4 h4')).mono ?_
      · obtain ⟨c1, c2⟩ := cut_at hq hi
        rw [Nat.add_assoc, hv _ c1, c2, List.append_assoc]; rfl
      · rcases hb with hb | hb
        · refine ⟨Nat.lt_of_lt_of_le (hPv b hb).1 hkp'.size, (hPv b hb).2.1, fun h => ?_⟩
          rcases hO' b h with h | h
          · exact (hPv b hb).2.2 h
          · exact absurd (hPv b hb).1 (Nat.not_lt.2 h)
        · exact ⟨hb.2, Nat.le_trans (Nat.le_trans hsz hkp.size) hb.1, fun h => absurd (hOl b h) (Nat.not_lt.2 hb.1)⟩
      · rintro e W3 ⟨hk3, he⟩
        have hk4 : Kpt (fun b => A b ∨ Pv b) W W3 := kpt_trans hkp' (kpt_weak hk3 fun b h => up h)
        have hO3 : ∀ {O2 : Nat → Prop}, (∀ b, O2 b → O' b ∨ w'.heap.size ≤ b) → ∀ b, O2 b → O b ∨ W.heap.size ≤ b := fun h2 b hb => by
          rcases h2 b hb with h | h
          · exact hO' b h
          · exact .inr (Nat.le_trans hkp'.size h)
        rcases he with ⟨rfl, O2, hI2, hO2⟩ | ⟨rfl, O2, hI2, hO2⟩
        · left
          refine ⟨rfl, q + 1, by simp only [Value.int.injEq, true_and]; omega, by omega, ⟨O2, ?_, hO3 hO2⟩, hk4⟩
          rw [cutP_succ, List.length_append, List.length_map, ← Nat.add_assoc]; exact hI2
        · exact .inr ⟨rfl, hk4, .inr ⟨rfl, O2, hI2, hO3 hO2⟩⟩
    rcases hp0 with ⟨rfl, rfl⟩ | ⟨hne, hlast⟩
    · obtain ⟨sp, sc, rfl⟩ : ∃ sp sc, v = .slice sp 0 sc := by
        rcases i64s_cells hc with ⟨_, b, c, rfl⟩ | ⟨b, o, c, rfl, _⟩
        · exact ⟨_, _, rfl⟩
        · exact ⟨_, _, rfl⟩
      exact choose_nil hx hp ht hp1 (by simpa using hh) hI hc hlA (fun hk hB hc => hcl hk hB hc) h1 h1' h3 h3' h3'' h4 h4' hstep
    · obtain ⟨m, hm⟩ : ∃ m, h.length = m + 1 := ⟨h.length - 1, by have := List.length_pos_iff.2 hne; omega⟩
      rcases i64s_cells hc with ⟨e, _⟩ | ⟨b, o, c, rfl, hAb, hcell⟩
      · exact absurd e hne
      · have hcc := hcell m (by omega)
        rw [show m = h.length - 1 by omega, hlast, show h.length - 1 = m by omega] at hcc
        rw [hm] at hc ⊢
        exact choose_cons hx hp ht hm hp1 (by omega) hcc hI hc hlA (fun hk hB hc => hcl hk hB hc) h1 h1' h3 h3' h3'' h4 h4' hstep
abbrev cutF : FuncId := 62
def cutRows (n frm to : Nat) : List (List D) := (cutL n frm to).map fun l => [.sl 1 (i64s l)]
set_option maxRecDepth 100000 in
set_option maxHeartbeats 4000000 in
theorem cuts_it (n frm to : Nat) (hn : n ≤ 900) (hf : frm ≤ 1000) (ht : to ≤ 1000) : IterOk Try.prog cutF [.ip [iv .i64 ((n + 1 : Nat) : Int)] 0, .ip [iv .i64 frm, iv .i64 to] 0] (cutRows n frm to) := by
  refine ⟨callFunc_ok Try.func62 rfl (by decide), ?_⟩
  intro w A cs hlow hcn hcs l0 I Ix U hI hIx hlt hY h0 hAU hUlt
  obtain ⟨x, y, rfl⟩ : ∃ x y, cs = #[x, y] := by
    obtain ⟨cs⟩ := cs
    match cs, hcn with
    | [x, y], _ => exact ⟨x, y, rfl⟩
  have hx := hcs 0 (by simp)
  have hy := hcs 1 (by simp)
  simp only [List.getD_cons_zero, List.getD_cons_succ] at hx hy
  have e0 : (#[x, y] : Array Value).getD 0 undef = x := rfl
  have e1 : (#[x, y] : Array Value).getD 1 undef = y := rfl
  rw [e0] at hx
  rw [e1] at hy
  obtain ⟨Bp, op, u, rfl, h1, h1', hu⟩ := cut_ip1 hx
  obtain ⟨Bo, oo, u2, u3, rfl, h3, h3', hu2, h3'', hu3⟩ := cut_ip2 hy
  cases hu
  cases hu2
  cases hu3
  have hCX : CX w A (cutRows n frm to) l0 I Ix := ⟨hlow, hlt, hI, hY⟩
  clear hI hIx hY hcs hcn hx hy e0 e1
  rw [show (#[Value.func (.yield l0) #[] #[]] ++ #[Value.pointer (some ⟨Bp, op, none⟩), Value.pointer (some ⟨Bo, oo, none⟩)] : Array Value) = #[.func (.yield l0) #[] #[], .pointer (some ⟨Bp, op, none⟩), .pointer (some ⟨Bo, oo, none⟩)] from rfl]
  refine callsIn_of_wp Try.func62 rfl trivial ?_ rfl
  simp only [Try.ntmps62, List.size_toArray, List.length_cons, List.length_nil, Nat.reduceAdd, Nat.reduceSub, Array.replicate_succ, Array.replicate_zero, List.push_toArray, List.append_toArray, List.nil_append, List.cons_append]
  have hB1 : Boxed ((w.alloc (Obj.cells #[Value.func (Fn.yield l0) #[] #[]] 123)).alloc (Obj.cells #[Value.nilFunc] 123)) w.heap.size 123 (.func (.yield l0) #[] #[]) := (Boxed.new w 123 _).alloc _
  have hB2 : Boxed ((w.alloc (Obj.cells #[Value.func (Fn.yield l0) #[] #[]] 123)).alloc (Obj.cells #[Value.nilFunc] 123)) (w.heap.size + 1) 123 .nilFunc := by
    have := Boxed.new (w.alloc (Obj.cells #[Value.func (Fn.yield l0) #[] #[]] 123)) 123 .nilFunc
    rw [World.size_alloc] at this; exact this
  have hb0 : Below w.heap.size w ((w.alloc (Obj.cells #[Value.func (Fn.yield l0) #[] #[]] 123)).alloc (Obj.cells #[Value.nilFunc] 123)) := by
    refine ⟨rfl, rfl, rfl, by rw [World.size_alloc, World.size_alloc]; omega, fun k hk => ?_⟩
    simp only [World.alloc, Array.getElem?_push, Array.size_push]
    rw [if_neg (by omega), if_neg (by omega)]
  have hst : (store ⟨w.heap.size + 1, 0, none⟩ (.func (.func choF) #[] #[.pointer (some ⟨Bp, op, none⟩), .pointer (some ⟨w.heap.size, 0, none⟩), .pointer (some ⟨Bo, oo, none⟩), .pointer (some ⟨w.heap.size + 1, 0, none⟩)])).run Try.prog ((w.alloc (Obj.cells #[Value.func (Fn.yield l0) #[] #[]] 123)).alloc (Obj.cells #[Value.nilFunc] 123)) = .ok () (((w.alloc (Obj.cells #[Value.func (Fn.yield l0) #[] #[]] 123)).alloc (Obj.cells #[Value.nilFunc] 123)).setCell ⟨w.heap.size + 1, 0, none⟩ (.func (.func choF) #[] #[.pointer (some ⟨Bp, op, none⟩), .pointer (some ⟨w.heap.size, 0, none⟩), .pointer (some ⟨Bo, oo, none⟩), .pointer (some ⟨w.heap.size + 1, 0, none⟩)])) := by
    rw [run_store _ _ _ _ _ rfl]
    simp [stored, hB2.cell, hB2.frozen]
  have hB1' : Boxed ((w.alloc (Obj.cells #[Value.func (Fn.yield l0) #[] #[]] 123)).alloc (Obj.cells #[(.func (.func choF) #[] #[.pointer (some ⟨Bp, op, none⟩), .pointer (some ⟨w.heap.size, 0, none⟩), .pointer (some ⟨Bo, oo, none⟩), .pointer (some ⟨w.heap.size + 1, 0, none⟩)])] 123)) w.heap.size 123 (.func (.yield l0) #[] #[]) := (Boxed.new w 123 _).alloc _
  have hB2' : Boxed ((w.alloc (Obj.cells #[Value.func (Fn.yield l0) #[] #[]] 123)).alloc (Obj.cells #[(.func (.func choF) #[] #[.pointer (some ⟨Bp, op, none⟩), .pointer (some ⟨w.heap.size, 0, none⟩), .pointer (some ⟨Bo, oo, none⟩), .pointer (some ⟨w.heap.size + 1, 0, none⟩)])] 123)) (w.heap.size + 1) 123 (.func (.func choF) #[] #[.pointer (some ⟨Bp, op, none⟩), .pointer (some ⟨w.heap.size, 0, none⟩), .pointer (some ⟨Bo, oo, none⟩), .pointer (some ⟨w.heap.size + 1, 0, none⟩)]) := by
    have := Boxed.new (w.alloc (Obj.cells #[Value.func (Fn.yield l0) #[] #[]] 123)) 123 (.func (.func choF) #[] #[.pointer (some ⟨Bp, op, none⟩), .pointer (some ⟨w.heap.size, 0, none⟩), .pointer (some ⟨Bo, oo, none⟩), .pointer (some ⟨w.heap.size + 1, 0, none⟩)])
    rw [World.size_alloc] at this; exact this
  have hb1 : Below w.heap.size w ((w.alloc (Obj.cells #[Value.func (Fn.yield l0) #[] #[]] 123)).alloc (Obj.cells #[(.func (.func choF) #[] #[.pointer (some ⟨Bp, op, none⟩), .pointer (some ⟨w.heap.size, 0, none⟩), .pointer (some ⟨Bo, oo, none⟩), .pointer (some ⟨w.heap.size + 1, 0, none⟩)])] 123)) := by
    refine ⟨rfl, rfl, rfl, by rw [World.size_alloc, World.size_alloc]; omega, fun k hk => ?_⟩
    simp only [World.alloc, Array.getElem?_push, Array.size_push]
    rw [if_neg (by omega), if_neg (by omega)]
  gi_wp2
  clear hst
  generalize ((w.alloc (Obj.cells #[Value.func (Fn.yield l0) #[] #[]] 123)).alloc (Obj.cells #[(.func (.func choF) #[] #[.pointer (some ⟨Bp, op, none⟩), .pointer (some ⟨w.heap.size, 0, none⟩), .pointer (some ⟨Bo, oo, none⟩), .pointer (some ⟨w.heap.size + 1, 0, none⟩)])] 123)) = w2 at hB1' hB2' hb1 ⊢
  rename_i K1 hK1
  have hcell : ∀ {b o : Nat} {u : Value}, A b → w.cell? ⟨b, o, none⟩ = some u → w2.cell? ⟨b, o, none⟩ = some u := fun {b o u} hb h => by rw [World.cell?_of_block (w := w) (hb1.block b (hlow b hb))]; exact h
  refine ⟨trivial, rfl, (choose_in hCX (parts := n + 1) (frm := frm) (to := to) (by omega) ht n [] frm (by simp) hf (.inl ⟨rfl, rfl⟩) 0 U w2 (fun b => b = w.heap.size ∨ b = w.heap.size + 1) (.slice none 0 0) (by simp [cutRows]) (fun i hi => ?_) (hCX.st 0 U w w2 h0 (kpt_below hb1)) hb1.size (fun b hb => ?_) (.sl0 1 _ _)
    (.inl h1) (hcell h1 h1') (.inr (.inl rfl)) hB1'.cell (.inl h3) (hcell h3 h3') (hcell h3 h3'') (.inr (.inr rfl)) hB2'.cell).mono ?_⟩
  · rw [Nat.zero_add, List.nil_append]
    simp [cutRows, List.getD, hi]
  · have := hB2'.lt
    rcases hb with rfl | rfl
    · exact ⟨by omega, Nat.le_refl _, fun h => by have := hUlt _ h; omega⟩
    · exact ⟨by omega, by omega, fun h => by have := hUlt _ h; omega⟩
  · rintro e W3 ⟨_, ⟨rfl, O2, hI2, _⟩ | ⟨rfl, O2, hI2, _⟩⟩
    · refine hK1 _ _ ?_
      gi_wp2
      go_end0
      refine ⟨⟨_, rfl⟩, .inl ⟨O2, ?_⟩⟩
      rw [show (cutRows n frm to).length = 0 + (cutL n frm to).length by simp [cutRows]]; exact hI2
    · refine hK1 _ _ ?_
      gi_wp2
      go_end0
      exact ⟨⟨_, rfl⟩, .inr ⟨O2, hI2⟩⟩
end Go.Proofs.Ytjekkbpdgnohcaa
