/-
  slices.Backward: the contract of what it hands back.
-/
import Derived.Test.YtplkkacfjepgpaaOpen
import Derived.Test.YtplkkacfjepgpaaCode
import Derived.RangeFuncBox
import Derived.RangeFuncLeaves
import Derived.Shelf.Abstract
import Derived.WalkKit
import Derived.OwnWalkIn
import Derived.TacticsInMore
import Derived.LoopNIn
import Derived.LoopIn
set_option linter.unusedVariables false
set_option linter.unusedSimpArgs false
set_option linter.unnecessarySimpa false
namespace Go.Proofs.Ytplkkacfjepgpaa
open Go.RowKit Go.Shelf Go.Dm
attribute [local go_sem] Oper.semAt_some
theorem callFunc_ok {P : Program} {f : FuncId} {fn : Func} (hf : P.funcs[f]? = some fn) (hb : fn.body.isSome = true) (hn : (fn.name == "runtime.NumGoroutine") = false) (args : Array Value) (w : World) : (callFunc f args).run P w = .ok (.enter f args) w := by
  have hb' : fn.body.isNone = false := by cases hx : fn.body <;> simp_all
  simp only [callFunc, Sem.run_bind, Sem.run_pure, Result.andThen_ok, run_program, hf]
  simp [hn, hb']
abbrev bk1F : FuncId := 73
def bkRow (l : List Int) (i : Nat) : List D := [.v (.int .i64 i), .v (.int .i64 (l.getD i 0))]
def bkRows (l : List Int) : List (List D) := (List.range l.length).map fun k => bkRow l (l.length - 1 - k)
theorem bkRows_len {l : List Int} : (bkRows l).length = l.length := by simp [bkRows]
theorem bkRows_get {l : List Int} {k : Nat} (h : k < l.length) : (bkRows l).getD k [] = bkRow l (l.length - 1 - k) := by
  simp [bkRows, List.getD, h]
theorem kpt_keep {Z : Nat → Prop} {W W' : World} {A : Nat → Prop} {w : World} (h : Kpt Z W W') (hZ : ∀ b, A b → Z b) (hA : ∀ b, A b → b < w.heap.size) (hs : w.heap.size ≤ W.heap.size) (hk : ∀ b, A b → W.heap[b]? = w.heap[b]?) : ∀ b, A b → W'.heap[b]? = w.heap[b]? :=
  fun b hb => (h.blk b (Nat.lt_of_lt_of_le (hA b hb) hs) (hZ b hb)).trans (hk b hb)
theorem i64s_cells {w : World} {A : Nat → Prop} {l : List Int} {u : Value} (h : CR w A (.sl 1 (i64s l)) u) : (l = [] ∧ ∃ b c, u = .slice b 0 c) ∨ ∃ b off c, u = .slice (some ⟨b, off, none⟩) l.length c ∧ A b ∧ ∀ j, j < l.length → w.cell? ⟨b, off + j, none⟩ = some (.int .i64 (l.getD j 0)) := by
  generalize hes : i64s l = es at h
  have hlen : es.length = l.length := by rw [← hes]; simp [i64s]
  cases h with
  | sl0 sz b c => left; exact ⟨List.eq_nil_of_length_eq_zero hlen.symm, b, c, rfl⟩
  | sl sz es b off n c us hA hn hcap hs hc hr =>
    right
    refine ⟨b, off, c, by rw [← hlen, hn], hA, fun j hj => ?_⟩
    have h1 := (hc j 0 (by omega) (by omega)).1
    have h2 := hr j 0 (by omega) (by omega)
    have e : (es.getD j []).getD 0 .junk = .v (.int .i64 (l.getD j 0)) := by rw [← hes]; simp [i64s, List.getD, hj]
    rw [e] at h2
    generalize us j 0 = v at h1 h2
    cases h2
    rw [Nat.mul_one, Nat.add_zero] at h1
    exact h1
set_option maxRecDepth 100000 in
set_option maxHeartbeats 4000000 in
theorem back1_in (l : List Int) (hl : l.length * 8 ≤ 140737488351232) (w : World) (A : Nat → Prop) (hlow : ∀ b, A b → b < w.heap.size) (Bs o0 b off c l0 : Nat) (I : Nat → (Nat → Prop) → World → Prop) (Ix : (Nat → Prop) → World → Prop) (U : Nat → Prop)
    (hY : ∀ (k : Nat) (O : Nat → Prop) (W : World), k < l.length → I k O W → YieldAt Fence.wide 0 Try.prog l0 #[.int .i64 ((l.length - 1 - k : Nat) : Int), .int .i64 (l.getD (l.length - 1 - k) 0)] W fun e W' =>
      (e = .returned (.bool true) ∧ (∃ O', I (k + 1) O' W') ∧ Kpt A W W') ∨ (e = .returned (.bool false) ∧ ∃ O', Ix O' W'))
    (hAB : A Bs) (hA : A b) (hBs : w.cell? ⟨Bs, o0, none⟩ = some (.slice (some ⟨b, off, none⟩) l.length c)) (hcs : ∀ j, j < l.length → w.cell? ⟨b, off + j, none⟩ = some (.int .i64 (l.getD j 0))) (h0 : I 0 U w) :
    CallsIn Fence.wide 0 Try.prog 73 #[.func (.yield l0) #[] #[], .pointer (some ⟨Bs, o0, none⟩)] w fun e W' => (∃ v, e = .returned v) ∧ ((∃ O, I l.length O W') ∨ ∃ O, Ix O W') := by
  refine callsIn_of_wp Try.func73 rfl trivial ?_ rfl
  simp only [Try.ntmps73, List.size_toArray, List.length_cons, List.length_nil, Nat.reduceAdd, Nat.reduceSub, Array.replicate_succ, Array.replicate_zero, List.push_toArray, List.append_toArray, List.nil_append, List.cons_append]
  gi_wp2
  gi_loopw [3] (fun i wr => ∃ k : Nat, k ≤ l.length ∧ i = .int .i64 ((l.length : Int) - 1 - k) ∧ (∃ O, I k O wr) ∧ w.heap.size ≤ wr.heap.size ∧ ∀ b, A b → wr.heap[b]? = w.heap[b]?)
    (fun i _ => ((intOf i) + 1).toNat)
  case atStart => exact ⟨0, Nat.zero_le _, by simp, ⟨U, h0⟩, Nat.le_refl _, fun _ _ => rfl⟩
  case round =>
    obtain ⟨k, hk, rfl, ⟨O, hI⟩, hsz, hkeep⟩ := hrel
    have hBs' : wr.cell? ⟨Bs, o0, none⟩ = some (.slice (some ⟨b, off, none⟩) l.length c) := by rw [World.cell?_of_block (w := w) (hkeep Bs hAB)]; exact hBs
    by_cases hlt : k < l.length
    · have hcx := hcs (l.length - 1 - k) (by omega)
      rw [← World.cell?_of_block (w := w) (w' := wr) (hkeep b hA)] at hcx
      obtain ⟨fn, tmps, assign, body, hy, hR⟩ := hY k O wr hlt hI
      have ei : ((l.length : Int) - 1 - k) = ((l.length - 1 - k : Nat) : Int) := by omega
      rw [ei]
      have hlt2 : l.length - 1 - k < l.length := by omega
      generalize hm : l.length - 1 - k = m at *
      clear hcs hY
      generalize hz : l.getD m 0 = z at hcx hy
      gi_wp2
      refine ⟨rfl, hR.mono ?_⟩
      rintro e W3 (⟨rfl, hJ3, hk3⟩ | ⟨rfl, hJx3⟩)
      · gi_wp2
        go_roundw
        case rel => exact ⟨k + 1, by omega, by simp; omega, hJ3, Nat.le_trans hsz hk3.size, kpt_keep hk3 (fun _ h => h) hlow hsz hkeep⟩
        case measure => simp [intOf]
      · gi_wp2
        refine bodyPost_ret (results_none rfl _ _ _) rfl ?_
        exact ⟨⟨_, rfl⟩, .inr hJx3⟩
    · have ei : ((l.length : Int) - 1 - k) = -1 := by omega
      rw [ei]
      obtain rfl : k = l.length := by omega
      gi_wp2
      go_end0
      exact ⟨⟨_, rfl⟩, .inl ⟨_, hI⟩⟩
set_option maxRecDepth 100000 in
set_option maxHeartbeats 1000000 in
theorem back1_nil_in (w : World) (Bs o0 l0 : Nat) (b : Option Addr) (c : Nat) (hBs : w.cell? ⟨Bs, o0, none⟩ = some (.slice b 0 c)) :
    CallsIn Fence.wide 0 Try.prog 73 #[.func (.yield l0) #[] #[], .pointer (some ⟨Bs, o0, none⟩)] w fun e W' => (∃ v, e = .returned v) ∧ W' = w := by
  refine callsIn_of_wp Try.func73 rfl trivial ?_ rfl
  simp only [Try.ntmps73, List.size_toArray, List.length_cons, List.length_nil, Nat.reduceAdd, Nat.reduceSub, Array.replicate_succ, Array.replicate_zero, List.push_toArray, List.append_toArray, List.nil_append, List.cons_append]
  gi_wp2
  gi_loopw [3] (fun i wr => i = .int .i64 (-1) ∧ wr = w) (fun _ _ => 0)
  case atStart => exact ⟨rfl, rfl⟩
  case round =>
    obtain ⟨rfl, rfl⟩ := hrel
    gi_wp2
    go_end0
    exact ⟨⟨_, rfl⟩, rfl⟩
theorem back_it (l : List Int) (hl : l.length * 8 ≤ 140737488351232) : IterOk Try.prog 73 [.ip [.sl 1 (i64s l)] 0] (bkRows l) := by
  refine ⟨callFunc_ok Try.func73 rfl (by decide), ?_⟩
  intro w A cs hlow hn hcs l0 I Ix U hI hIx hY h0 hAU hUlt
  obtain ⟨x, rfl⟩ : ∃ x, cs = #[x] := by
    obtain ⟨cs⟩ := cs
    match cs, hn with
    | [x], _ => exact ⟨x, rfl⟩
  have hx := hcs 0 (by simp)
  simp only [List.getD_cons_zero] at hx
  have e0 : (#[x] : Array Value).getD 0 undef = x := rfl
  rw [e0] at hx
  cases hx with
  | ip e o b o2 us hA hc hr =>
  have hc0 := hc 0 (by simp)
  have hr0 := hr 0 (by simp)
  simp only [List.getD_cons_zero, Nat.add_zero] at hc0 hr0
  generalize us 0 = u at hc0 hr0
  rw [show (#[Value.func (.yield l0) #[] #[]] ++ #[Value.pointer (some ⟨b, o2 + 0, none⟩)] : Array Value) = #[.func (.yield l0) #[] #[], .pointer (some ⟨b, o2, none⟩)] from rfl]
  rcases i64s_cells hr0 with ⟨rfl, b2, c, rfl⟩ | ⟨b2, off2, c, rfl, hA2, hcs2⟩
  · have h := back1_nil_in w b o2 l0 b2 c hc0
    exact h.mono fun e W' ⟨h1, h2⟩ => ⟨h1, .inl ⟨U, by rw [h2]; exact h0⟩⟩
  · refine (back1_in l hl w A hlow b o2 b2 off2 c l0 I Ix U (fun k O W hk hI' => ?_) hA hA2 hc0 hcs2 h0).mono fun e W' ⟨h1, h2⟩ => ⟨h1, by rw [bkRows_len]; exact h2⟩
    have hk' : k < (bkRows l).length := by rw [bkRows_len]; exact hk
    obtain ⟨fn, tmps, asg, bd, h1, h2⟩ := hY k O W (fun _ => False) #[.int .i64 ((l.length - 1 - k : Nat) : Int), .int .i64 (l.getD (l.length - 1 - k) 0)] hk' hI' (fun _ h => h.elim) (fun _ h => h.elim) (by rw [bkRows_get hk]; rfl) (fun i hi => by
      rw [bkRows_get hk]
      simp at hi
      rcases i with _ | _ | i
      · exact .v _
      · exact .v _
      · omega)
    refine ⟨fn, tmps, asg, bd, h1, h2.mono ?_⟩
    rintro e W' ⟨hk1, ⟨rfl, O', hO, _⟩ | ⟨rfl, O', hO, _⟩⟩
    · exact .inl ⟨rfl, ⟨O', hO⟩, ⟨hk1.os, hk1.tape, hk1.output, hk1.size, fun b hb h => hk1.blk b hb (.inr h), hk1.shp⟩⟩
    · exact .inr ⟨rfl, O', hO⟩
end Go.Proofs.Ytplkkacfjepgpaa
